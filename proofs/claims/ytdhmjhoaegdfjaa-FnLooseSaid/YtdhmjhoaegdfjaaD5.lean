import Derived.Test.YtdhmjhoaegdfjaaD4
namespace Go.Proofs.Ytdhmjhoaegdfjaa
open Go.RowKit Go.Sort Go.BigFrame

theorem prev_idx {L k : Nat} (hk : k < L) : (((k : Int) + -1 + (L : Int)) % (L : Int)) = (((k + (L - 1)) % L : Nat) : Int) := by
  have : (k : Int) + -1 + (L : Int) = ((k + (L - 1) : Nat) : Int) := by omega
  rw [this]; norm_cast
theorem prevD_eq (ns ls : List P2) (x : Nat) : prevD ns ls x = (arnd ns ls (dEnds ls x).1).getD (((arnd ns ls (dEnds ls x).1).idxOf x + ((arnd ns ls (dEnds ls x).1).length - 1)) % (arnd ns ls (dEnds ls x).1).length) 0 := rfl
theorem arnd_len40 (ns ls : List P2) (k : Int) (hm : ls.length ≤ 20) : (arnd ns ls k).length ≤ 40 := by
  have := arnN_len ns ls k (2 * ls.length)
  unfold arnd; omega

set_option maxRecDepth 100000 in
set_option maxHeartbeats 4000000 in
theorem beside_c (A B : Option Addr) (c d : Nat) (ns ls : List P2) (x : Nat) (w : World) (h : Wn w A c B d ns ls) (hW : WOk ns ls) (hxd : x < 2 * ls.length) :
    Calls Try.prog 134 #[.agg #[.slice A ns.length c, .slice B ls.length d], .int .i64 (x : Int), .int .i64 (-1)] w fun e w' => e = .returned (.int .i64 ((prevD ns ls x : Nat) : Int)) ∧ Ext w w' := by
  have hm := hW.le
  have HW := Lib.hid hW
  obtain ⟨f, t, hft, hf, ht⟩ := dEnds_ok hW hxd
  have HF : Hid ((dEnds ls x).1 = (f : Int)) := Lib.hid (by rw [hft])
  have hxm := arnd_self (ns := ns) hxd
  have HE := Lib.hid (prevD_eq ns ls x)
  rw [HF.out] at HE hxm
  have hl := arnd_len40 ns ls f hm
  clear hW hft
  generalize hLL : arnd ns ls f = l at *
  have HLL := Lib.hid hLL
  clear hLL
  have hil := List.idxOf_lt_length_of_mem hxm
  have HNL := Lib.hid (nl_len l)
  have HPI : Hid (((l.idxOf x : Int) + -1) % (l.length : Int) = (((l.idxOf x + (l.length - 1)) % l.length : Nat) : Int)) := Lib.hid (by rw [← prev_idx hil, Int.add_emod_right])
  have hpl : (l.idxOf x + (l.length - 1)) % l.length < l.length := Nat.mod_lt _ (by omega)
  have hxm2 := hxm
  go_enter Try.func134, Try.ntmps134
  go_wp2_with fail
  have k0 : (w.alloc (.cells #[.slice A ns.length c, .slice B ls.length d] 27)).cell? ⟨w.heap.size, 0, none⟩ = some (.slice A ns.length c) := by go_simp
  have k1 : (w.alloc (.cells #[.slice A ns.length c, .slice B ls.length d] 27)).cell? ⟨w.heap.size, 1, none⟩ = some (.slice B ls.length d) := by go_simp
  have hx : Ext w (w.alloc (.cells #[.slice A ns.length c, .slice B ls.length d] 27)) := (by repeat first | exact Ext.refl _ | assumption | refine Ext.drew ?_ | refine Ext.alloc ?_ _ | refine Ext.setCell ?_ (by simp) | refine Ext.setCell ?_ (by simp; omega) | refine Ext.trans ?_ (by assumption))
  have hsz1 : w.heap.size + 1 = (w.alloc (.cells #[.slice A ns.length c, .slice B ls.length d] 27)).heap.size := by simp
  generalize (w.alloc (.cells #[.slice A ns.length c, .slice B ls.length d] 27)) = w1 at *
  (try rw [hsz1])
  go_cut [7] (fun s wx => ∃ v, s = v ∧ OwI wx w1.heap.size v (nl l) ∧ Ext w1 wx)
  case first =>
    have d0 := cell_regrown k0
    have d1 := cell_regrown k1
    refine rx_open [(true, 0, some 8, 8), (true, 0, some 9, 8), (true, 0, some 10, 2), (false, 6, some 11, 1536), (false, 9, some 12, 2304), (true, 31, some 7, 4096)] 0 6 mixd rfl (by kernel_rfl) (by kernel_rfl) (by kernel_rfl) ?_
    refine rx_run (run := [0, 1, 2]) (k := 3) (m' := 7) rfl (by kernel_rfl) (by kernel_rfl) (by kernel_rfl) (fm_cons rfl <| fm_cons rfl <| fm_cons rfl <| List.filterMap_nil) (by repeat first | exact Ext.refl _ | assumption | refine Ext.drew ?_ | refine Ext.alloc ?_ _ | refine Ext.setCell ?_ (by simp) | refine Ext.setCell ?_ (by simp; omega) | refine Ext.trans ?_ (by assumption)) ?_
    repeat (go_big_quiet_step ((fail)))
    refine wpQuiet_nil ?_
    refine rx_op 3 (k := 2) (m' := 15) rfl rfl (by kernel_rfl) (by kernel_rfl) ?_
    go_wp2_with (first | (go_at_call 85; refine (dartFrom_c A B c d ns ls x _ (h.ext (hx.trans (by repeat first | exact Ext.refl _ | assumption | refine Ext.drew ?_ | refine Ext.alloc ?_ _ | refine Ext.setCell ?_ (by simp) | refine Ext.setCell ?_ (by simp; omega) | refine Ext.trans ?_ (by assumption)))) hxd).mono ?_; rw [HF.out]; rintro e w5 ⟨rfl, hb5⟩) | (go_at_call 82; refine (around_c A B c d ns ls f _ (h.ext (hx.trans (by repeat first | exact Ext.refl _ | assumption | refine Ext.drew ?_ | refine Ext.alloc ?_ _ | refine Ext.setCell ?_ (by simp) | refine Ext.setCell ?_ (by simp; omega) | refine Ext.trans ?_ (by assumption)))) HW.out hf).mono ?_; rw [HLL.out]; rintro e w6 ⟨v, rfl, hv, hb6⟩))
    refine rx_on (by repeat first | exact Ext.refl _ | assumption | refine Ext.drew ?_ | refine Ext.alloc ?_ _ | refine Ext.setCell ?_ (by simp) | refine Ext.setCell ?_ (by simp; omega) | refine Ext.trans ?_ (by assumption)) ?_
    refine rx_op 4 (k := 1) (m' := 31) rfl rfl (by kernel_rfl) (by kernel_rfl) ?_
    go_wp2_with (first | (go_at_call 85; refine (dartFrom_c A B c d ns ls x _ (h.ext (hx.trans (by repeat first | exact Ext.refl _ | assumption | refine Ext.drew ?_ | refine Ext.alloc ?_ _ | refine Ext.setCell ?_ (by simp) | refine Ext.setCell ?_ (by simp; omega) | refine Ext.trans ?_ (by assumption)))) hxd).mono ?_; rw [HF.out]; rintro e w5 ⟨rfl, hb5⟩) | (go_at_call 82; refine (around_c A B c d ns ls f _ (h.ext (hx.trans (by repeat first | exact Ext.refl _ | assumption | refine Ext.drew ?_ | refine Ext.alloc ?_ _ | refine Ext.setCell ?_ (by simp) | refine Ext.setCell ?_ (by simp; omega) | refine Ext.trans ?_ (by assumption)))) HW.out hf).mono ?_; rw [HLL.out]; rintro e w6 ⟨v, rfl, hv, hb6⟩))
    refine rx_on (by repeat first | exact Ext.refl _ | assumption | refine Ext.drew ?_ | refine Ext.alloc ?_ _ | refine Ext.setCell ?_ (by simp) | refine Ext.setCell ?_ (by simp; omega) | refine Ext.trans ?_ (by assumption)) ?_
    refine rx_run (run := [5]) (k := 0) (m' := 63) rfl (by kernel_rfl) (by kernel_rfl) (by kernel_rfl) (fm_cons rfl <| List.filterMap_nil) (by repeat first | exact Ext.refl _ | assumption | refine Ext.drew ?_ | refine Ext.alloc ?_ _ | refine Ext.setCell ?_ (by simp) | refine Ext.setCell ?_ (by simp; omega) | refine Ext.trans ?_ (by assumption)) ?_
    repeat (go_big_quiet_step ((fail)))
    refine wpQuiet_nil ?_
    refine rx_end (by kernel_rfl) ?_
    all_goals (go_wp2; go_meet; exact ⟨_, rfl, (hv.more (show Ext w1 w5 from (by repeat first | exact Ext.refl _ | assumption | refine Ext.drew ?_ | refine Ext.alloc ?_ _ | refine Ext.setCell ?_ (by simp) | refine Ext.setCell ?_ (by simp; omega) | refine Ext.trans ?_ (by assumption))).size).ext (by repeat first | exact Ext.refl _ | assumption | refine Ext.drew ?_ | refine Ext.alloc ?_ _ | refine Ext.setCell ?_ (by simp) | refine Ext.setCell ?_ (by simp; omega) | refine Ext.trans ?_ (by assumption)), (by repeat first | exact Ext.refl _ | assumption | refine Ext.drew ?_ | refine Ext.alloc ?_ _ | refine Ext.setCell ?_ (by simp) | refine Ext.setCell ?_ (by simp; omega) | refine Ext.trans ?_ (by assumption))⟩)
  case rest =>
    obtain ⟨v, rfl, hv, hb⟩ := hcut
    obtain ⟨w2, rfl⟩ : ∃ x : World, x = wc := ⟨_, rfl⟩
    have hx := hx.trans hb
    obtain ⟨A5, c5, rfl, -, -, hin⟩ := hv.shape
    rw [HNL.out]
    have HIN := Lib.hid hin
    go_wp2_with fail
    refine (Index_c A5 c5 l x _ hin (by omega) hxm).mono ?_
    rintro e w3 ⟨rfl, rfl⟩
    obtain ⟨b, off, rfl, hbb, c1⟩ := HIN.out.gi_ (k := (l.idxOf x + (l.length - 1)) % l.length) (by rw [HNL.out]; exact hpl)
    rw [nl_gi l hpl, ← HE.out] at c1
    have hpi := HPI.out
    generalize (l.idxOf x + (l.length - 1)) % l.length = p at *
    generalize hy : prevD ns ls x = y at *
    have hpl2 : (p : Int) < l.length := by omega
    go_wp2
    go_ret
    exact ⟨by rw [hy]; rfl, hx⟩
end Go.Proofs.Ytdhmjhoaegdfjaa
