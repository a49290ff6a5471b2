import Derived.Test.YtdhmjhoaegdfjaaD3
import Derived.Lib.Strings
import Derived.Lib.Slices
import Derived.Lib.Small
import Derived.Lib.Walk
import Derived.Lib.BitFns
namespace Go.Proofs.Ytdhmjhoaegdfjaa
open Go.RowKit Go.Sort Go.BigFrame

theorem dAt_yes {ls : List P2} {k : Int} {j : Nat} (h : (dEnds ls j).1 = k) : nl (dAt ls k (j + 1)) = nl (dAt ls k j) ++ [(j : Int)] := by
  unfold dAt nl
  rw [List.range_succ, List.filter_append]
  simp [h]
theorem dAt_no {ls : List P2} {k : Int} {j : Nat} (h : ¬ (dEnds ls j).1 = k) : dAt ls k (j + 1) = dAt ls k j := by
  unfold dAt
  rw [List.range_succ, List.filter_append]
  simp [h]
theorem dAt_len' (ls : List P2) (k : Int) (j : Nat) : (dAt ls k j).length ≤ j := by
  unfold dAt
  have := List.length_filter_le (fun d => decide ((dEnds ls d).1 = k)) (List.range j)
  rwa [List.length_range] at this
theorem dAt_small {ns ls : List P2} (hW : WOk ns ls) {k : Nat} : (dAt ls k (2 * ls.length)).length ≤ 20 := by
  rw [dAt_len hW k _ (Nat.le_refl _)]
  have := lat_len ls k ls.length
  have := hW.le
  omega

set_option maxHeartbeats 4000000 in
set_option maxRecDepth 100000 in
theorem Len64_c (x : Int) (w : World) (h0 : 0 ≤ x) (h1 : x ≤ 255) : Calls Try.prog 149 #[.int .u64 x] w fun e w' => (∃ z, e = .returned (.int .i64 z)) ∧ w = w' := by
  go_enter Try.func149, Try.ntmps149
  go_wp2
  go_ret
  exact ⟨⟨_, rfl⟩, rfl⟩
theorem Len_c (x : Int) (w : World) (h0 : 0 ≤ x) (h1 : x ≤ 255) : Calls Try.prog 136 #[.int .u64 x] w fun e w' => (∃ z, e = .returned (.int .i64 z)) ∧ w = w' := by
  go_enter Try.func136, Try.ntmps136
  go_wp2_with fail
  refine (Len64_c x _ h0 h1).mono ?_
  rintro e w' ⟨⟨z, rfl⟩, rfl⟩
  go_wp2
  go_ret
  exact ⟨⟨_, rfl⟩, rfl⟩

set_option maxRecDepth 100000 in
set_option maxHeartbeats 4000000 in
theorem pdq_c (W : World) (gw gk : Nat) (A B : Option Addr) (c d : Nat) (ns ls : List P2) (k : Nat) (v : Value) (l : List Nat) (z : Int) (w : World) (h : Wn W A c B d ns ls) (hW : WOk ns ls) (hk : k < ns.length)
    (k0 : W.cell? ⟨gw, 0, none⟩ = some (.slice A ns.length c)) (k1 : W.cell? ⟨gw, 1, none⟩ = some (.slice B ls.length d)) (kk : W.cell? ⟨gk, 0, none⟩ = some (.int .i64 (k : Int)))
    (hx : Ext W w) (hv : OwI w W.heap.size v (nl l)) (hl : l.length ≤ 12) (hn : l.Nodup) (hm : ∀ x ∈ l, x < 2 * ls.length) :
    Calls Try.prog 135 #[v, .int .i64 0, .int .i64 (l.length : Int), .int .i64 z, .func (.func 117) #[] #[.pointer (some ⟨gw, 0, none⟩), .pointer (some ⟨gk, 0, none⟩)]] w
      fun e w' => (∃ u, e = .returned u) ∧ OwI w' W.heap.size v (nl (insAll (dlt ns ls k) [] l)) ∧ Ext W w' := by
  have HN := Lib.hid hn
  have HM := Lib.hid hm
  have HW := Lib.hid hW
  clear hn hm hW
  go_enter Try.func135, Try.ntmps135
  go_wp2_with fail
  refine wp_loop_rounds 1 ?_
  rw [rounds_succ]
  go_wp2_with fail
  refine (insSort_c W gw gk A B c d ns ls k v l _ h HW.out hk k0 k1 kk hx hv (by omega) HN.out HM.out).mono ?_
  rintro e w' ⟨⟨u, rfl⟩, hv', hx'⟩
  go_wp2
  refine bodyPost_ret (results_none rfl _ _ _) rfl ?_
  exact ⟨⟨_, rfl⟩, hv', hx'⟩

set_option maxRecDepth 100000 in
set_option maxHeartbeats 4000000 in
theorem SortFunc_c (W : World) (gw gk : Nat) (A B : Option Addr) (c d : Nat) (ns ls : List P2) (k : Nat) (v : Value) (l : List Nat) (w : World) (h : Wn W A c B d ns ls) (hW : WOk ns ls) (hk : k < ns.length)
    (k0 : W.cell? ⟨gw, 0, none⟩ = some (.slice A ns.length c)) (k1 : W.cell? ⟨gw, 1, none⟩ = some (.slice B ls.length d)) (kk : W.cell? ⟨gk, 0, none⟩ = some (.int .i64 (k : Int)))
    (hx : Ext W w) (hv : OwI w W.heap.size v (nl l)) (hl : l.length ≤ 12) (hn : l.Nodup) (hm : ∀ x ∈ l, x < 2 * ls.length) :
    Calls Try.prog 116 #[v, .func (.func 117) #[] #[.pointer (some ⟨gw, 0, none⟩), .pointer (some ⟨gk, 0, none⟩)]] w
      fun e w' => (∃ u, e = .returned u) ∧ OwI w' W.heap.size v (nl (insAll (dlt ns ls k) [] l)) ∧ Ext W w' := by
  have HN := Lib.hid hn
  have HM := Lib.hid hm
  have HW := Lib.hid hW
  clear hn hm hW
  obtain ⟨A5, c5, e5, -, -, -⟩ := hv.shape
  rw [nl_len] at e5
  subst e5
  go_enter Try.func116, Try.ntmps116
  go_wp2_with fail
  refine (Len_c _ _ (by omega) (by omega)).mono ?_
  rintro e w' ⟨⟨z, rfl⟩, rfl⟩
  go_wp2_with fail
  refine (pdq_c W gw gk A B c d ns ls k _ l z _ h HW.out hk k0 k1 kk hx hv hl HN.out HM.out).mono ?_
  rintro e w' ⟨⟨u, rfl⟩, hv', hx'⟩
  go_wp2
  go_end0
  exact ⟨⟨_, rfl⟩, hv', hx'⟩

theorem ld_ne {ns ls : List P2} (hW : WOk ns ls) {i j : Nat} (hi : i < ls.length) (hj : j < i) : gp ls i ≠ gp ls j := by
  intro e
  obtain ⟨h1, h2, -⟩ := hW.ld i hi
  have h3 := h2 j hj
  rw [← e] at h3
  have : dox ns (gp ls i) (gp ls i) = true := by
    unfold dox dox4
    simp [h1, peq]
  rw [this] at h3
  cases h3
theorem ld_lt {ns ls : List P2} (hW : WOk ns ls) {i : Nat} (hi : i < ls.length) : (gp ls i).1 < (gp ls i).2 := by
  obtain ⟨h1, -, -⟩ := hW.ld i hi
  generalize gp ls i = L at *
  obtain ⟨p, q⟩ := L
  obtain ⟨a, b, rfl, rfl, hab, -⟩ := lok_spec h1
  simp; omega
theorem ld_inj {ns ls : List P2} (hW : WOk ns ls) {i j : Nat} (hi : i < ls.length) (hj : j < ls.length) (e : gp ls i = gp ls j) : i = j := by
  rcases Nat.lt_trichotomy i j with h | h | h
  · exact absurd e.symm (ld_ne hW hj h)
  · exact h
  · exact absurd e (ld_ne hW hi h)
theorem dEnds_inj {ns ls : List P2} (hW : WOk ns ls) {d e : Nat} (hd : d < 2 * ls.length) (he : e < 2 * ls.length) (h : dEnds ls d = dEnds ls e) : d = e := by
  have h1 := ld_lt hW (i := d / 2) (by omega)
  have h2 := ld_lt hW (i := e / 2) (by omega)
  have h3 : gp ls (d / 2 : Nat) = gp ls (e / 2 : Nat) → d / 2 = e / 2 := ld_inj hW (by omega) (by omega)
  unfold dEnds at h
  generalize gp ls (d / 2 : Nat) = L at *
  generalize gp ls (e / 2 : Nat) = M at *
  obtain ⟨p, q⟩ := L
  obtain ⟨r, s⟩ := M
  simp only [Prod.mk.injEq] at h3 h1 h2
  split at h <;> split at h <;> simp only [Prod.mk.injEq] at h
  · have := h3 ⟨h.2, h.1⟩; omega
  · omega
  · omega
  · have := h3 h; omega
theorem arnd_small {ns ls : List P2} (hW : WOk ns ls) (k : Nat) : (dAt ls k (2 * ls.length)).length ≤ 12 := by
  apply Classical.byContradiction
  intro hgt
  have hn := hW.hi
  have hmem : ∀ i, i ≤ ns.length → (dAt ls k (2 * ls.length)).getD i 0 < 2 * ls.length ∧ (dEnds ls ((dAt ls k (2 * ls.length)).getD i 0)).1 = k := by
    intro i hi
    have hil : i < (dAt ls k (2 * ls.length)).length := by omega
    rw [getD_at _ hil]
    have h1 := List.getElem_mem hil
    generalize (dAt ls k (2 * ls.length))[i] = x at *
    unfold dAt at h1
    rw [List.mem_filter, List.mem_range, decide_eq_true_eq] at h1
    exact h1
  obtain ⟨i, j, hij, hj, e⟩ := php ns.length (fun i => (dEnds ls ((dAt ls k (2 * ls.length)).getD i 0)).2.toNat) (fun i hi => by
    obtain ⟨a, b, e, ha, hb⟩ := dEnds_ok hW (hmem i hi).1
    show (dEnds ls ((dAt ls k (2 * ls.length)).getD i 0)).2.toNat < ns.length
    rw [e]; simpa using hb)
  have hi := hmem i (by omega)
  have hj' := hmem j hj
  have hil : i < (dAt ls k (2 * ls.length)).length := by omega
  have hjl : j < (dAt ls k (2 * ls.length)).length := by omega
  have hne := nodup_getD_inj (nperm_range (p := fun d => decide ((dEnds ls d).1 = k)) (2 * ls.length)) (i := i) (j := j) hil hjl
  have heq : (dAt ls k (2 * ls.length)).getD i 0 = (dAt ls k (2 * ls.length)).getD j 0 := by
    apply dEnds_inj hW hi.1 hj'.1
    obtain ⟨a, b, e1, ha, hb⟩ := dEnds_ok hW hi.1
    obtain ⟨a', b', e2, ha', hb'⟩ := dEnds_ok hW hj'.1
    have h1 := hi.2
    have h2 := hj'.2
    (try simp only at e)
    rw [e1] at h1 e ⊢
    rw [e2] at h2 e ⊢
    simp only at h1 h2 e ⊢
    simp at e
    rw [h1, h2, e]
  have := hne heq
  omega

set_option maxRecDepth 100000 in
set_option maxHeartbeats 4000000 in
theorem around_c (A B : Option Addr) (c d : Nat) (ns ls : List P2) (k : Nat) (w : World) (h : Wn w A c B d ns ls) (hW : WOk ns ls) (hk : k < ns.length) :
    Calls Try.prog 82 #[.agg #[.slice A ns.length c, .slice B ls.length d], .int .i64 (k : Int)] w fun e w' => ∃ v, e = .returned v ∧ OwI w' w.heap.size v (nl (arnd ns ls k)) ∧ Ext w w' := by
  have hn := hW.hi
  have hm := hW.le
  have HW := Lib.hid hW
  clear hW
  go_enter Try.func82, Try.ntmps82
  go_wp2_with fail
  have k0 : (w.alloc (.cells #[.slice A ns.length c, .slice B ls.length d] 27)).cell? ⟨w.heap.size, 0, none⟩ = some (.slice A ns.length c) := by go_simp
  have k1 : (w.alloc (.cells #[.slice A ns.length c, .slice B ls.length d] 27)).cell? ⟨w.heap.size, 1, none⟩ = some (.slice B ls.length d) := by go_simp
  have hx : Ext w (w.alloc (.cells #[.slice A ns.length c, .slice B ls.length d] 27)) := (by repeat first | exact Ext.refl _ | assumption | refine Ext.drew ?_ | refine Ext.alloc ?_ _ | refine Ext.setCell ?_ (by simp) | refine Ext.setCell ?_ (by simp; omega) | refine Ext.trans ?_ (by assumption))
  have hsz1 : w.heap.size + 1 = (w.alloc (.cells #[.slice A ns.length c, .slice B ls.length d] 27)).heap.size := by simp
  generalize (w.alloc (.cells #[.slice A ns.length c, .slice B ls.length d] 27)) = w1 at *
  (try rw [hsz1])
  have kk : (w1.alloc (.cells #[.int .i64 (k : Int)] 3)).cell? ⟨w1.heap.size, 0, none⟩ = some (.int .i64 (k : Int)) := by go_simp
  have hx2 : Ext w1 (w1.alloc (.cells #[.int .i64 (k : Int)] 3)) := (by repeat first | exact Ext.refl _ | assumption | refine Ext.drew ?_ | refine Ext.alloc ?_ _ | refine Ext.setCell ?_ (by simp) | refine Ext.setCell ?_ (by simp; omega) | refine Ext.trans ?_ (by assumption))
  generalize (w1.alloc (.cells #[.int .i64 (k : Int)] 3)) = w2 at *
  have k0 := hx2.lit k0
  have k1 := hx2.lit k1
  have hx := hx.trans hx2
  clear hx2
  go_loopw [5, 6] (fun v i wr => ∃ j : Nat, j ≤ 2 * ls.length ∧ i = .int .i64 j ∧ OwI wr w2.heap.size v (nl (dAt ls k j)) ∧ Ext w2 wr) (fun _ i _ => 2 * ls.length - (intOf i).toNat)
  case atStart => exact ⟨0, by omega, rfl, OwI.nil _ _, Ext.refl _⟩
  case round =>
    obtain ⟨j, hj, rfl, hv, hxr⟩ := hrel
    obtain ⟨wo, rfl⟩ : ∃ x : World, x = wr := ⟨_, rfl⟩
    have hx0 := hx.trans hxr
    have kk0 := k0
    have kk1 := k1
    have kkk := kk
    have k0 := hxr.lit k0
    have k1 := hxr.lit k1
    have kk := hxr.lit kk
    by_cases hlt : j < 2 * ls.length
    · have hji : (j : Int) < 2 * (ls.length : Int) := by omega
      obtain ⟨f, t, hft, hf, ht⟩ := dEnds_ok HW.out hlt
      have HF : Hid ((dEnds ls j).1 = (f : Int)) := Lib.hid (by rw [hft])
      have hsz := hxr.size
      have hln := dAt_len' ls k j
      have HL := Lib.hid (nl_len (dAt ls k j))
      clear hft
      go_upto_region 5 with fail
      go_cut [19] (fun s wx => s = .bool ((f : Int) == (k : Int)) ∧ Ext wo wx)
      case first =>
        have d0 := cell_regrown k0
        have d1 := cell_regrown k1
        have d2 := cell_regrown kk
        refine rx_open [(true, 0, some 15, 4), (true, 0, some 16, 64), (false, 3, some 17, 98304), (true, 0, some 18, 8), (true, 12, some 19, 393216)] 0 5 mixd rfl (by kernel_rfl) (by kernel_rfl) (by kernel_rfl) ?_
        refine rx_run (run := [0, 1, 3]) (k := 2) (m' := 11) rfl (by kernel_rfl) (by kernel_rfl) (by kernel_rfl) (fm_cons rfl <| fm_cons rfl <| fm_cons rfl <| List.filterMap_nil) (by repeat first | exact Ext.refl _ | assumption | refine Ext.drew ?_ | refine Ext.alloc ?_ _ | refine Ext.setCell ?_ (by simp) | refine Ext.setCell ?_ (by simp; omega) | refine Ext.trans ?_ (by assumption)) ?_
        repeat (go_big_quiet_step ((fail)))
        refine wpQuiet_nil ?_
        refine rx_op 2 (k := 1) (m' := 15) rfl rfl (by kernel_rfl) (by kernel_rfl) ?_
        go_wp2_with ((go_at_call 85; refine (dartFrom_c A B c d ns ls j _ (h.ext (hx0.trans (by repeat first | exact Ext.refl _ | assumption | refine Ext.drew ?_ | refine Ext.alloc ?_ _ | refine Ext.setCell ?_ (by simp) | refine Ext.setCell ?_ (by simp; omega) | refine Ext.trans ?_ (by assumption)))) hlt).mono ?_; rw [HF.out]; rintro e w5 ⟨rfl, hb5⟩))
        refine rx_on (by repeat first | exact Ext.refl _ | assumption | refine Ext.drew ?_ | refine Ext.alloc ?_ _ | refine Ext.setCell ?_ (by simp) | refine Ext.setCell ?_ (by simp; omega) | refine Ext.trans ?_ (by assumption)) ?_
        refine rx_run (run := [4]) (k := 0) (m' := 31) rfl (by kernel_rfl) (by kernel_rfl) (by kernel_rfl) (fm_cons rfl <| List.filterMap_nil) (by repeat first | exact Ext.refl _ | assumption | refine Ext.drew ?_ | refine Ext.alloc ?_ _ | refine Ext.setCell ?_ (by simp) | refine Ext.setCell ?_ (by simp; omega) | refine Ext.trans ?_ (by assumption)) ?_
        repeat (go_big_quiet_step ((fail)))
        refine wpQuiet_nil ?_
        refine rx_end (by kernel_rfl) ?_
        all_goals (go_wp2; go_meet; exact ⟨rfl, (by repeat first | exact Ext.refl _ | assumption | refine Ext.drew ?_ | refine Ext.alloc ?_ _ | refine Ext.setCell ?_ (by simp) | refine Ext.setCell ?_ (by simp; omega) | refine Ext.trans ?_ (by assumption))⟩)
      case rest =>
        obtain ⟨rfl, hb⟩ := hcut
        obtain ⟨w3, rfl⟩ : ∃ x : World, x = wc := ⟨_, rfl⟩
        have hv := hv.ext hb
        have hxr := hxr.trans hb
        have hsz := hxr.size
        clear hb
        by_cases hfk : f = k
        · subst hfk
          have Hs := Lib.hid (dAt_yes HF.out)
          have hbq : ((f : Int) == (f : Int)) = true := by simp
          rw [hbq]
          go_wp2_with (at_builtin; refine az_int2 (B0 := 0) _ _ rfl rfl rfl (.of (hv.ext ((Ext.refl w3).alloc _))) (g := w3.heap.size) (y := j) (by first | rfl | simp) (by go_simp) (by rw [HL.out]; omega) (by simp; omega) ?_)
          intro v' w' h1 h3
          go_wp2
          go_roundw
          case rel => exact ⟨j + 1, by omega, by go_num, by rw [Hs.out]; exact h1, h3 _ (hxr.trans (by repeat first | exact Ext.refl _ | assumption | refine Ext.drew ?_ | refine Ext.alloc ?_ _ | refine Ext.setCell ?_ (by simp) | refine Ext.setCell ?_ (by simp; omega) | refine Ext.trans ?_ (by assumption))) (Nat.le_refl _)⟩
          case measure => first | (simp [intOf]; done) | (simp [intOf]; omega)
        · have Hs := Lib.hid (dAt_no (ls := ls) (k := (k : Int)) (j := j) (by rw [HF.out]; omega))
          have hbq : ((f : Int) == (k : Int)) = false := beq_eq_false_iff_ne.2 (by omega)
          rw [hbq]
          go_wp2
          go_roundw
          case rel => exact ⟨j + 1, by omega, by go_num, by rw [Hs.out]; exact hv, hxr⟩
          case measure => first | (simp [intOf]; done) | (simp [intOf]; omega)
    · obtain rfl : j = 2 * ls.length := by omega
      have HA : Hid (arnd ns ls k = insAll (dlt ns ls k) [] (dAt ls k (2 * ls.length))) := Lib.hid (arnN_insAll ns ls k _)
      go_wp2_with fail
      refine (SortFunc_c w2 w.heap.size w1.heap.size A B c d ns ls k _ (dAt ls k (2 * ls.length)) _ (h.ext hx) HW.out hk kk0 kk1 kkk hxr hv (arnd_small HW.out k) (nperm_range _) (fun x hx => by have := List.mem_range.1 (List.mem_filter.1 hx).1; exact this)).mono ?_
      rintro e w4 ⟨⟨u, rfl⟩, hv4, hx4⟩
      go_wp2
      go_ret
      exact ⟨_, rfl, by rw [HA.out]; exact hv4.more hx.size, hx.trans hx4⟩
end Go.Proofs.Ytdhmjhoaegdfjaa
