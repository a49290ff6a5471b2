import Derived.Test.YtdhmjhoaegdfjaaD5
namespace Go.Proofs.Ytdhmjhoaegdfjaa
open Go.RowKit Go.Sort Go.BigFrame

def slen : Value → Nat
  | .slice _ n _ => n
  | _ => 0

set_option maxRecDepth 100000 in
set_option maxHeartbeats 4000000 in
theorem l05Step_c (A B : Option Addr) (c d : Nat) (ns ls : List P2) (x : Nat) (w : World) (h : Wn w A c B d ns ls) (hW : WOk ns ls) (hxd : x < 2 * ls.length) :
    Calls Try.prog 127 #[.agg #[.slice A ns.length c, .slice B ls.length d], .int .i64 (x : Int), .int .i64 (-1)] w fun e w' => e = .returned (.int .i64 ((prevD ns ls x : Nat) : Int)) ∧ Ext w w' := by
  have hm := hW.le
  have HW := Lib.hid hW
  obtain ⟨f, t, hft, hf, ht⟩ := dEnds_ok hW hxd
  have HFT := Lib.hid hft
  have HF : Hid ((dEnds ls x).1 = (f : Int)) := Lib.hid (by rw [hft])
  have hxm := arnd_self (ns := ns) hxd
  have HE := Lib.hid (prevD_eq ns ls x)
  rw [HF.out] at HE hxm
  have hl := arnd_len40 ns ls f hm
  clear hW hft
  generalize hLL : arnd ns ls f = l at *
  have HLL := Lib.hid hLL
  clear hLL
  have hil := List.idxOf_lt_length_of_mem hxm
  have HNL := Lib.hid (nl_len l)
  have HPI : Hid (((l.idxOf x : Int) + -1) % (l.length : Int) = (((l.idxOf x + (l.length - 1)) % l.length : Nat) : Int)) := Lib.hid (by rw [← prev_idx hil, Int.add_emod_right])
  have hpl : (l.idxOf x + (l.length - 1)) % l.length < l.length := Nat.mod_lt _ (by omega)
  have HIX : Hid (l.getD (l.idxOf x) 0 = x) := Lib.hid (by rw [getD_at l hil]; exact List.getElem_idxOf hil)
  go_enter Try.func127, Try.ntmps127
  go_wp2_with fail
  have k0 : (w.alloc (.cells #[.slice A ns.length c, .slice B ls.length d] 27)).cell? ⟨w.heap.size, 0, none⟩ = some (.slice A ns.length c) := by go_simp
  have k1 : (w.alloc (.cells #[.slice A ns.length c, .slice B ls.length d] 27)).cell? ⟨w.heap.size, 1, none⟩ = some (.slice B ls.length d) := by go_simp
  have hx : Ext w (w.alloc (.cells #[.slice A ns.length c, .slice B ls.length d] 27)) := (by repeat first | exact Ext.refl _ | assumption | refine Ext.drew ?_ | refine Ext.alloc ?_ _ | refine Ext.setCell ?_ (by simp) | refine Ext.setCell ?_ (by simp; omega) | refine Ext.trans ?_ (by assumption))
  have hsz1 : w.heap.size + 1 = (w.alloc (.cells #[.slice A ns.length c, .slice B ls.length d] 27)).heap.size := by simp
  generalize (w.alloc (.cells #[.slice A ns.length c, .slice B ls.length d] 27)) = w1 at *
  (try rw [hsz1])
  refine (l05Ends_s A B c d ns ls x _ (h.ext hx) hxd).mono ?_
  rw [HFT.out]
  rintro e w2 ⟨rfl, hb⟩
  have k0 := hb.lit k0
  have k1 := hb.lit k1
  have hx := hx.trans hb
  clear hb
  go_wp2_with fail
  refine (l05Around_s A B c d ns ls f _ (h.ext hx) HW.out hf).mono ?_
  rw [HLL.out]
  rintro e w3 ⟨v, rfl, hv, hb⟩
  have hx := hx.trans hb
  obtain ⟨A5, c5, rfl, -, -, hin⟩ := hv.shape
  rw [HNL.out]
  have HIN := Lib.hid hin
  clear k0 k1 hb hin hv
  go_wp2_with fail
  go_loop [10] (fun i => ∃ j : Nat, j ≤ l.length ∧ i = .int .i64 j ∧ Hid (∀ i, i < j → l.getD i 0 ≠ x)) (fun i => l.length - (intOf i).toNat)
  case atStart => exact ⟨0, by omega, rfl, Lib.hid (fun i hi => by omega)⟩
  case round =>
    obtain ⟨j, hj, rfl, ha⟩ := hrel
    by_cases hlt : j < l.length
    · obtain ⟨b, off, rfl, hbb, c1⟩ := HIN.out.gi_ (k := j) (by rw [HNL.out]; exact hlt)
      rw [nl_gi l hlt] at c1
      by_cases he : l.getD j 0 = x
      · have hje : l.idxOf x = j := idxOf_at hlt he ha.out
        obtain ⟨b', off', e2, hbb2, c2⟩ := HIN.out.gi_ (k := (l.idxOf x + (l.length - 1)) % l.length) (by rw [HNL.out]; exact hpl)
        obtain ⟨rfl, rfl⟩ : b = b' ∧ off = off' := by simpa using e2
        rw [nl_gi l hpl, ← HE.out] at c2
        rw [he] at c1
        have hpi := HPI.out
        rw [hje] at hpi c2 hpl
        have hq : ((x : Int) == (x : Int)) = true := by simp
        clear HPI HIX hil he hje e2
        generalize (j + (l.length - 1)) % l.length = p at *
        generalize hy : prevD ns ls x = y at *
        have hpl2 : (p : Int) < l.length := by omega
        go_wp2
        go_ret
        exact ⟨by first | rfl | (rw [hy]; rfl), hx⟩
      · have hk : Hid (∀ i, i < j + 1 → l.getD i 0 ≠ x) := Lib.hid (fun i hi => by
          rcases Nat.lt_succ_iff_lt_or_eq.1 hi with h | h
          · exact ha.out i h
          · subst h; exact he)
        have hq : (((l.getD j 0 : Nat) : Int) == (x : Int)) = false := beq_eq_false_iff_ne.2 (by omega)
        clear HPI
        generalize l.getD j 0 = y at *
        go_wp2
        go_round
        case rel => exact ⟨j + 1, by omega, by go_num, hk⟩
        case measure => simp [intOf]; omega
    · exfalso
      exact ha.out (l.idxOf x) (by omega) HIX.out

set_option maxRecDepth 100000 in
set_option maxHeartbeats 4000000 in
theorem l06Next_c (A B : Option Addr) (c d : Nat) (ns ls : List P2) (x : Nat) (w : World) (h : Wn w A c B d ns ls) (hW : WOk ns ls) (hxd : x < 2 * ls.length) :
    Calls Try.prog 100 #[.agg #[.slice A ns.length c, .slice B ls.length d], .int .i64 (x : Int)] w fun e w' => e = .returned (.int .i64 ((nxt ns ls x : Nat) : Int)) ∧ Ext w w' := by
  have HW := Lib.hid hW
  have hm := hW.le
  have xx := xor1_w x (by omega)
  have hx1 := xor1_lt hxd
  have HN : Hid (prevD ns ls (x ^^^ 1) = nxt ns ls x) := Lib.hid rfl
  clear hW
  go_enter Try.func100, Try.ntmps100
  go_wp2_with fail
  have k0 : (w.alloc (.cells #[.slice A ns.length c, .slice B ls.length d] 27)).cell? ⟨w.heap.size, 0, none⟩ = some (.slice A ns.length c) := by go_simp
  have k1 : (w.alloc (.cells #[.slice A ns.length c, .slice B ls.length d] 27)).cell? ⟨w.heap.size, 1, none⟩ = some (.slice B ls.length d) := by go_simp
  have hx : Ext w (w.alloc (.cells #[.slice A ns.length c, .slice B ls.length d] 27)) := (by repeat first | exact Ext.refl _ | assumption | refine Ext.drew ?_ | refine Ext.alloc ?_ _ | refine Ext.setCell ?_ (by simp) | refine Ext.setCell ?_ (by simp; omega) | refine Ext.trans ?_ (by assumption))
  have hsz1 : w.heap.size + 1 = (w.alloc (.cells #[.slice A ns.length c, .slice B ls.length d] 27)).heap.size := by simp
  generalize (w.alloc (.cells #[.slice A ns.length c, .slice B ls.length d] 27)) = w1 at *
  (try rw [hsz1])
  refine (l05Step_c A B c d ns ls (x ^^^ 1) _ (h.ext hx) HW.out hx1).mono ?_
  rw [HN.out]
  rintro e w2 ⟨rfl, hb⟩
  go_wp2
  go_ret
  exact ⟨rfl, hx.trans hb⟩

set_option maxRecDepth 100000 in
set_option maxHeartbeats 4000000 in
theorem l06Walk_c (A B : Option Addr) (c d : Nat) (ns ls : List P2) (x : Nat) (w : World) (h : Wn w A c B d ns ls) (hW : WOk ns ls) (hxd : x < 2 * ls.length) :
    Calls Try.prog 64 #[.agg #[.slice A ns.length c, .slice B ls.length d], .int .i64 (x : Int)] w fun e w' => ∃ v, e = .returned v ∧ OwI w' w.heap.size v (nl (wlk ns ls x)) ∧ Ext w w' := by
  have hm := hW.le
  have HW := Lib.hid hW
  obtain ⟨p1, p2, p3, p4⟩ := per_ok (ns := ns) hxd
  have HL : Hid (wlk ns ls x = wlkR ns ls x (perd (nxt ns ls) (2 * ls.length) x)) := Lib.hid rfl
  have HR := Lib.hid (wlkR_succ ns ls x)
  have HT := Lib.hid (itr_nxt_lt (ns := ns) hxd)
  have HP3 := Lib.hid p3
  have HP4 := Lib.hid p4
  clear hW p3 p4
  generalize perd (nxt ns ls) (2 * ls.length) x = p at *
  go_enter Try.func64, Try.ntmps64
  go_wp2_with fail
  have k0 : (w.alloc (.cells #[.slice A ns.length c, .slice B ls.length d] 27)).cell? ⟨w.heap.size, 0, none⟩ = some (.slice A ns.length c) := by go_simp
  have k1 : (w.alloc (.cells #[.slice A ns.length c, .slice B ls.length d] 27)).cell? ⟨w.heap.size, 1, none⟩ = some (.slice B ls.length d) := by go_simp
  have hx : Ext w (w.alloc (.cells #[.slice A ns.length c, .slice B ls.length d] 27)) := (by repeat first | exact Ext.refl _ | assumption | refine Ext.drew ?_ | refine Ext.alloc ?_ _ | refine Ext.setCell ?_ (by simp) | refine Ext.setCell ?_ (by simp; omega) | refine Ext.trans ?_ (by assumption))
  have hsz1 : w.heap.size + 1 = (w.alloc (.cells #[.slice A ns.length c, .slice B ls.length d] 27)).heap.size := by simp
  generalize (w.alloc (.cells #[.slice A ns.length c, .slice B ls.length d] 27)) = w1 at *
  (try rw [hsz1])
  have kk0 := k0
  have kk1 := k1
  have hv0 : OwI (w1.alloc (.cells #[.int .i64 (x : Int)] 3)) w1.heap.size (.slice (some ⟨w1.heap.size, 0, none⟩) 1 1) (nl (wlkR ns ls x 1)) := OwI.new (xs := [(x : Int)]) (Bk.new _ _ rfl) (Nat.le_refl _) (by simp; unfold maxLen; omega)
  have hb0 : Ext w1 (w1.alloc (.cells #[.int .i64 (x : Int)] 3)) := (by repeat first | exact Ext.refl _ | assumption | refine Ext.drew ?_ | refine Ext.alloc ?_ _ | refine Ext.setCell ?_ (by simp) | refine Ext.setCell ?_ (by simp; omega) | refine Ext.trans ?_ (by assumption))
  generalize (w1.alloc (.cells #[.int .i64 (x : Int)] 3)) = w2 at *
  have k0 := hb0.lit k0
  have k1 := hb0.lit k1
  refine (l06Next_c A B c d ns ls x _ (h.ext (hx.trans (by repeat first | exact Ext.refl _ | assumption | refine Ext.drew ?_ | refine Ext.alloc ?_ _ | refine Ext.setCell ?_ (by simp) | refine Ext.setCell ?_ (by simp; omega) | refine Ext.trans ?_ (by assumption)))) HW.out hxd).mono ?_
  rintro e w3 ⟨rfl, hb3⟩
  have hv0 := hv0.ext hb3
  have hb0 := hb0.trans hb3
  have k0 := hb3.lit k0
  have k1 := hb3.lit k1
  have HN : Hid (nxt ns ls x = itr (nxt ns ls) 1 x) := Lib.hid rfl
  rw [HN.out]
  clear hb3 k0 k1
  go_wp2_with fail
  go_loopw [5, 6] (fun v e wr => ∃ r : Nat, 1 ≤ r ∧ r ≤ p ∧ e = .int .i64 (itr (nxt ns ls) r x : Nat) ∧ OwI wr w1.heap.size v (nl (wlkR ns ls x r)) ∧ Ext w1 wr) (fun v _ _ => p - slen v)
  case atStart => exact ⟨1, Nat.le_refl _, p1, rfl, hv0, hb0⟩
  case round =>
    clear hv0 hb0
    obtain ⟨r, hr1, hr, rfl, hv, hxr⟩ := hrel
    obtain ⟨wo, rfl⟩ : ∃ x : World, x = wr := ⟨_, rfl⟩
    have k0 := hxr.lit kk0
    have k1 := hxr.lit kk1
    have hx0 := hx.trans hxr
    have hsz := hxr.size
    have HLN : Hid ((nl (wlkR ns ls x r)).length = r) := Lib.hid (by rw [nl_len, wlkR_len])
    obtain ⟨A5, c5, rfl, -⟩ := hv.shape
    rw [HLN.out] at hv
    rw [HLN.out]
    by_cases hlt : r < p
    · have hne := HP4.out r hr1 hlt
      have hq : (((itr (nxt ns ls) r x : Nat) : Int) != (x : Int)) = true := bne_iff_ne.2 (by omega)
      have HS := Lib.hid (HR.out r)
      have hel := HT.out r
      have HN : Hid (nxt ns ls (itr (nxt ns ls) r x) = itr (nxt ns ls) (r + 1) x) := Lib.hid rfl
      generalize he : itr (nxt ns ls) r x = e at *
      go_wp2_with (at_builtin; refine az_int2 (B0 := 0) _ _ rfl rfl rfl (.of (hv.ext ((Ext.refl wo).alloc _))) (g := wo.heap.size) (y := e) (by first | rfl | simp) (by go_simp) (by rw [HLN.out]; omega) (by simp; omega) ?_)
      intro v' w4 h1 h3
      obtain ⟨A6, c6, he6, -⟩ := h1.shape
      rw [List.length_append, HLN.out, List.length_singleton] at he6
      subst he6
      have hx4 : Ext w1 w4 := h3 _ (hxr.trans (by repeat first | exact Ext.refl _ | assumption | refine Ext.drew ?_ | refine Ext.alloc ?_ _ | refine Ext.setCell ?_ (by simp) | refine Ext.setCell ?_ (by simp; omega) | refine Ext.trans ?_ (by assumption))) (Nat.le_refl _)
      have k0 := hx4.lit kk0
      have k1 := hx4.lit kk1
      go_wp2_with fail
      refine (l06Next_c A B c d ns ls e _ (h.ext (hx.trans hx4)) HW.out hel).mono ?_
      rintro e' w5 ⟨rfl, hb5⟩
      rw [HN.out]
      go_wp2
      go_roundw
      case rel => exact ⟨r + 1, by omega, by omega, rfl, by rw [HS.out, nl_snoc]; exact h1.ext hb5, hx4.trans hb5⟩
      case measure => simp [slen]; omega
    · obtain rfl : r = p := by omega
      have hq : (((itr (nxt ns ls) r x : Nat) : Int) != (x : Int)) = false := by rw [HP3.out]; simp
      go_wp2
      go_ret
      exact ⟨_, rfl, by rw [HL.out]; exact hv.more hx.size, hx0⟩
end Go.Proofs.Ytdhmjhoaegdfjaa
