import Derived.Test.YtpainmnekgnpeaaB18
namespace Go.Proofs.Ytpainmnekgnpeaa
open Go.RowKit Go.Sort Go.BigFrame

/-- append of one pair -/
theorem az_pair {P : Program} (tS T : TypeId) (hu : P.underlying tS = some (.slice T)) (hif : (P.info? T).map (fun i => (i.zero, i.size, i.bytes)) = some (some (.agg #[.int .i64 0, .int .i64 0]), 2, 16))
    {ops : Array Oper} {rest : List Oper} {o : Oper} {a : Act} {Q : Exit → Act → World → Prop} {w : World} (s x : Operand) (hgd : o.guard = none)
    (ho : o.op = .call { callee := .builtin .append, args := #[s, x], argTypes := #[tS, tS] })
    {B0 B : Nat} {v : Value} {l : List P2} (hs : a.eval s = v) (hown : OwZ w B0 B T 2 v l.length (l.flatMap pc)) {g : Nat} {p q : Int} (hx : a.eval x = .slice (some ⟨g, 0, none⟩) 1 1)
    (h0 : w.cell? ⟨g, 0, none⟩ = some (.int .i64 p)) (h1 : w.cell? ⟨g, 1, none⟩ = some (.int .i64 q)) (hl : l.length ≤ 2000000) (hB : B ≤ w.heap.size)
    (h : ∀ v' w' r, OwP w' B T v' (l ++ [(p, q)]) → (∀ W, Ext W w → W.heap.size ≤ B → Ext W w') → w.grownBy w' r → (∀ q, r = some q → B ≤ q) → (∀ g c, v = .slice (some g) l.length c → l.length < c → v' = .slice (some g) (l.length + 1) c) →
      wpList P ops Q rest (a.put o.dst v') w') : wpList P ops Q (o :: rest) a w := by
  refine az_gen tS T _ 2 16 hu hif rfl (by omega) (by omega) s x hgd ho hs hown (news := [.int .i64 p, .int .i64 q]) hx rfl ?_ ?_ (by omega) hB ?_
  · intro j u hj
    match j, hj with
    | 0, hj => simp at hj; subst hj; exact h0
    | 1, hj => simp at hj; subst hj; exact h1
  · intro u hu
    simp at hu
    rcases hu with rfl | rfl <;> rfl
  · rintro v' w' h2 h3 h4 ⟨r, h5, h6⟩
    refine h v' w' r ?_ h3 h5 h6 h4
    unfold OwP
    simpa [List.flatMap_append, pc] using h2

theorem full_bits (a n : Nat) (hn : n ≤ 60) : ((a : Int) == wrap64 (wrap64 (2 ^ n) - 1)) = decide (a = 2 ^ n - 1) := by
  rw [pow_w n (by omega)]
  have h1 : 1 ≤ 2 ^ n := Nat.one_le_two_pow
  have h2 : 2 ^ n ≤ 2 ^ 60 := Nat.pow_le_pow_right (by omega) hn
  generalize 2 ^ n = m at *
  have : wrap64 ((m : Int) - 1) = ((m - 1 : Nat) : Int) := by unfold wrap64; omega
  rw [this, Bool.eq_iff_iff, beq_iff_eq, decide_eq_true_eq]
  omega
set_option maxRecDepth 100000 in
set_option maxHeartbeats 4000000 in
theorem IsSpanning_i (A B : Option Addr) (c d : Nat) (ns ls : List P2) (X : Option Addr) (xc : Nat) (xs : List Int) (w : World) (h : Wn w A c B d ns ls) (hX : In w w.heap.size X xs) (hxl : xs.length ≤ 2000000) :
    Calls Try.prog 40 #[.agg #[.slice A ns.length c, .slice B ls.length d], .slice X xs.length xc] w fun e w' => e = .returned (.bool (vIsSpanning ns ls xs)) ∧ Ext w w' := by
  have HV : Hid (vIsSpanning ns ls xs = (whole ns ls && ris xs 0 (ls.length - 1) && decide ((xs.length : Int) = (ns.length : Int) - 1) && (List.range xs.length).all (fun j => joins ns.length (spairs ls xs) j))) := Lib.hid rfl
  have hnl := h.hl
  have hml := h.hm
  by_cases hw : whole ns ls = true
  · obtain ⟨hW, hm0⟩ := whole_ok hw
    have hn := hW.hi
    have hm := hW.le
    have hn1 := hW.lo
    by_cases hr : ris xs 0 (ls.length - 1) = true
    · by_cases hlen : (xs.length : Int) = (ns.length : Int) - 1
      · have HB : Hid (∀ j : Nat, j < xs.length → 0 ≤ gi xs j ∧ gi xs j ≤ (ls.length : Int) - 1) := Lib.hid (fun _ hj => ris_bd hr hj)
        have HY := Lib.hid (vIs_yes hw hr hlen).2
        have Hvd := Lib.hid (spairs_vd hW hr)
        have Hv := Lib.hid (vd_of_ok hW)
        have hne : ((xs.length : Int) != (ns.length : Int) - 1) = false := by simp [hlen]
        have hxn : xs.length < ns.length := by omega
        have HL := Lib.hid (spairs_len ls xs)
        have HG : Hid (∀ j : Nat, j < xs.length → gp (spairs ls xs) j = gp ls (gi xs j)) := Lib.hid (fun _ hj => spairs_gp hj)
        have hlen' : xs.length = ns.length - 1 := by omega
        have Hlen := Lib.hid hlen'
        clear hlen hlen' hW HV
        go_enter Try.func40, Try.ntmps40
        go_wp2_with fail
        have k0 : (w.alloc (.cells #[.slice A ns.length c, .slice B ls.length d] 36)).cell? ⟨w.heap.size, 0, none⟩ = some (.slice A ns.length c) := by go_simp
        have k1 : (w.alloc (.cells #[.slice A ns.length c, .slice B ls.length d] 36)).cell? ⟨w.heap.size, 1, none⟩ = some (.slice B ls.length d) := by go_simp
        have hx : Ext w (w.alloc (.cells #[.slice A ns.length c, .slice B ls.length d] 36)) := (by repeat first | exact Ext.refl _ | assumption | refine Ext.drew ?_ | refine Ext.alloc ?_ _ | refine Ext.setCell ?_ (by simp) | refine Ext.setCell ?_ (by simp; omega) | refine Ext.trans ?_ (by assumption))
        have hsz1 : w.heap.size + 1 = (w.alloc (.cells #[.slice A ns.length c, .slice B ls.length d] 36)).heap.size := by simp
        generalize (w.alloc (.cells #[.slice A ns.length c, .slice B ls.length d] 36)) = w0 at *
        (try rw [hsz1])
        refine (IsWhole_i _ _ _ _ ns ls _ (h.ext hx)).mono ?_
        rintro e w1 ⟨rfl, hb⟩
        have k0 := hb.lit k0
        have k1 := hb.lit k1
        have hx := hx.trans hb
        clear hb
        rw [hw]
        go_wp2_with fail
        refine (rising_c X xc xs 0 _ _ hxl (hX.ext hx)).mono ?_
        rintro e w' ⟨rfl, rfl⟩
        rw [hr]
        go_wp2_with fail
        generalize hPP : spairs ls xs = PP at *
        clear hPP
        go_loopw [5, 7, 31] (fun v _ i wr => ∃ j : Nat, j ≤ xs.length ∧ i = .int .i64 j ∧ OwP wr w1.heap.size 76 v (PP.take j) ∧ Ext w1 wr) (fun _ _ i _ => xs.length - (intOf i).toNat)
        case atStart => exact ⟨0, by omega, rfl, OwP.nil _ _ _, Ext.refl _⟩
        case round =>
          obtain ⟨j, hj, rfl, hv, hxr⟩ := hrel
          obtain ⟨wo, rfl⟩ : ∃ x : World, x = wr := ⟨_, rfl⟩
          have hx0 := hx.trans hxr
          have k0 := hxr.lit k0
          have k1 := hxr.lit k1
          by_cases hlt : j < xs.length
          · obtain ⟨xb, xo, rfl, hxb, c0⟩ := (hX.ext hx0).gi_ hlt
            have hb := HB.out j hlt
            have HGj := Lib.hid (HG.out j hlt)
            have HT : Hid (PP.take (j + 1) = PP.take j ++ [gp PP j]) := Lib.hid (by rw [List.take_succ_eq_append_getElem (by rw [HL.out]; exact hlt), gp_nat PP j (by rw [HL.out]; exact hlt)])
            have hln : (PP.take j).length ≤ j := List.length_take_le _ _
            generalize gi xs j = x at *
            obtain ⟨y, rfl⟩ := Int.eq_ofNat_of_zero_le hb.1
            have hy : y < ls.length := by omega
            obtain ⟨b, off, rfl, hbb, c1, c2⟩ := (h.ext hx0).g.gp_ hy
            obtain ⟨f, t, hft, hf, ht⟩ := Hv.out (gp ls y) (by rw [gp_nat ls y hy]; exact List.getElem_mem hy)
            rw [hft] at c1 c2 HGj
            rw [HGj.out] at HT
            clear hft HGj hb
            have hyi : (y : Int) < ls.length := by omega
            have hsz := hxr.size
            go_wp2_with fail
            have d0 := cell_regrown k1
            have d1 := cell_regrown c1
            have d2 := cell_regrown c2
            refine rx_open [(true, 0, some 35, 32), (true, 0, some 36, 4), (true, 2, some 37, 68719476736), (true, 0, some 38, 128), (true, 12, some 39, 412316860416), (true, 16, some 40, 549755813888), (true, 32, some 41, 1099511627776), (true, 0, some 42, 4), (true, 128, some 43, 4398046511104), (true, 0, some 44, 128), (true, 768, some 45, 26388279066624), (true, 1024, some 46, 35184372088832), (true, 2048, some 47, 70368744177664), (false, 4160, some 48, 142936511610880), (false, 8192, some 49, 281474976710656), (false, 16385, some 50, 562984313159680), (true, 65535, some 5, 1125899906842624)] 98304 17 mixd rfl (by kernel_rfl) (by kernel_rfl) (by kernel_rfl) ?_
            refine rx_run (run := [0, 1, 2, 3, 4, 5, 6, 7, 8, 9, 10, 11, 12]) (k := 4) (m' := 8191) rfl (by kernel_rfl) (by kernel_rfl) (by kernel_rfl) (fm_cons rfl <| fm_cons rfl <| fm_cons rfl <| fm_cons rfl <| fm_cons rfl <| fm_cons rfl <| fm_cons rfl <| fm_cons rfl <| fm_cons rfl <| fm_cons rfl <| fm_cons rfl <| fm_cons rfl <| fm_cons rfl <| List.filterMap_nil) (by repeat first | exact Ext.refl _ | assumption | refine Ext.drew ?_ | refine Ext.alloc ?_ _ | refine Ext.setCell ?_ (by simp) | refine Ext.setCell ?_ (by simp; omega) | refine Ext.trans ?_ (by assumption)) ?_
            repeat (go_big_quiet_step ((fail)))
            refine wpQuiet_nil ?_
            refine rx_op 13 (k := 3) (m' := 16383) rfl rfl (by kernel_rfl) (by kernel_rfl) ?_
            go_wp2
            refine rx_on (by repeat first | exact Ext.refl _ | assumption | refine Ext.drew ?_ | refine Ext.alloc ?_ _ | refine Ext.setCell ?_ (by simp) | refine Ext.setCell ?_ (by simp; omega) | refine Ext.trans ?_ (by assumption)) ?_
            refine rx_op 14 (k := 2) (m' := 32767) rfl rfl (by kernel_rfl) (by kernel_rfl) ?_
            go_wp2
            refine rx_on (by repeat first | exact Ext.refl _ | assumption | refine Ext.drew ?_ | refine Ext.alloc ?_ _ | refine Ext.setCell ?_ (by simp) | refine Ext.setCell ?_ (by simp; omega) | refine Ext.trans ?_ (by assumption)) ?_
            refine rx_op 15 (k := 1) (m' := 65535) rfl rfl (by kernel_rfl) (by kernel_rfl) ?_
            go_wp2_with ((at_builtin; refine az_pair (B0 := 0) 75 76 Try.underlying75 infoA _ _ rfl rfl rfl (.inl (hv.ext (by repeat first | exact Ext.refl _ | assumption | refine Ext.drew ?_ | refine Ext.alloc ?_ _ | refine Ext.setCell ?_ (by simp) | refine Ext.setCell ?_ (by simp; omega) | refine Ext.trans ?_ (by assumption)))) (g := wo.heap.size) (p := f) (q := t) (by first | rfl | simp) (by go_simp) (by go_simp) (by omega) (by simp; omega) ?_; intro v' w' r h1 h3 h4 h5 h6))
            refine rx_lst (by decide) ?_
            refine rx_op 16 (k := 0) (m' := 131071) rfl rfl (by kernel_rfl) (by kernel_rfl) ?_
            go_wp2
            refine rx_lst (by decide) ?_
            refine rx_end (by kernel_rfl) ?_
            go_wp2
            go_roundw
            case rel => exact ⟨j + 1, by omega, by go_num, by rw [HT.out]; exact h1, h3 _ (hxr.trans (by repeat first | exact Ext.refl _ | assumption | refine Ext.drew ?_ | refine Ext.alloc ?_ _ | refine Ext.setCell ?_ (by simp) | refine Ext.setCell ?_ (by simp; omega) | refine Ext.trans ?_ (by assumption))) (Nat.le_refl _)⟩
            case measure => first | (simp [intOf]; done) | (simp [intOf]; omega)
          · obtain rfl : j = xs.length := by omega
            rw [List.take_of_length_le (by rw [HL.out]; exact Nat.le_refl _)] at hv
            have hsz := hxr.size
            obtain ⟨A5, c5, rfl, -, -, hP⟩ := hv.shape
            go_wp2_with fail
            have d0 := cell_regrown k0
            refine rx_open [(true, 0, some 52, 32), (false, 1, some 53, 4503599627370496), (true, 0, some 54, 4), (true, 4, some 55, 18014398509481984), (true, 8, some 56, 36028797018963968), (true, 16, some 57, 72057594037927936), (true, 32, some 58, 144115188075855872), (true, 66, some 59, 297237575406452736), (true, 255, some 4, 576460752303423488)] 0 9 mixd rfl (by kernel_rfl) (by kernel_rfl) (by kernel_rfl) ?_
            refine rx_run (run := [0, 2, 3, 4, 5, 6]) (k := 3) (m' := 125) rfl (by kernel_rfl) (by kernel_rfl) (by kernel_rfl) (fm_cons rfl <| fm_cons rfl <| fm_cons rfl <| fm_cons rfl <| fm_cons rfl <| fm_cons rfl <| List.filterMap_nil) (by repeat first | exact Ext.refl _ | assumption | refine Ext.drew ?_ | refine Ext.alloc ?_ _ | refine Ext.setCell ?_ (by simp) | refine Ext.setCell ?_ (by simp; omega) | refine Ext.trans ?_ (by assumption)) ?_
            repeat (go_big_quiet_step ((fail)))
            refine wpQuiet_nil ?_
            refine rx_op 1 (k := 2) (m' := 127) rfl rfl (by kernel_rfl) (by kernel_rfl) ?_
            go_wp2_with ((go_at_call 84; refine (joined_c _ _ ns.length PP _ (by omega) (by rw [HL.out]; omega) Hvd.out (by omega) (hP.ext (by repeat first | exact Ext.refl _ | assumption | refine Ext.drew ?_ | refine Ext.alloc ?_ _ | refine Ext.setCell ?_ (by simp) | refine Ext.setCell ?_ (by simp; omega) | refine Ext.trans ?_ (by assumption)))).mono ?_; rintro e w6 ⟨rfl, hb6⟩))
            refine rx_on (by repeat first | exact Ext.refl _ | assumption | refine Ext.drew ?_ | refine Ext.alloc ?_ _ | refine Ext.setCell ?_ (by simp) | refine Ext.setCell ?_ (by simp; omega) | refine Ext.trans ?_ (by assumption)) ?_
            refine rx_run (run := [7, 8]) (k := 0) (m' := 511) rfl (by kernel_rfl) (by kernel_rfl) (by kernel_rfl) (fm_cons rfl <| fm_cons rfl <| List.filterMap_nil) (by repeat first | exact Ext.refl _ | assumption | refine Ext.drew ?_ | refine Ext.alloc ?_ _ | refine Ext.setCell ?_ (by simp) | refine Ext.setCell ?_ (by simp; omega) | refine Ext.trans ?_ (by assumption)) ?_
            repeat (go_big_quiet_step ((fail)))
            refine wpQuiet_nil ?_
            refine rx_end (by kernel_rfl) ?_
            go_wp2
            go_ret
            refine ⟨?_, hx0.trans (by repeat first | exact Ext.refl _ | assumption | refine Ext.drew ?_ | refine Ext.alloc ?_ _ | refine Ext.setCell ?_ (by simp) | refine Ext.setCell ?_ (by simp; omega) | refine Ext.trans ?_ (by assumption))⟩
            show Ending.returned (.bool (((itB PP PP.length 1 : Nat) : Int) == wrap64 (wrap64 (2 ^ ns.length) - 1))) = _
            refine ret_b ?_
            rw [full_bits _ _ (by omega), Bool.eq_iff_iff, HY.out, decide_eq_true_eq]
      · have hne : ((xs.length : Int) != (ns.length : Int) - 1) = true := by simp [hlen]
        go_enter Try.func40, Try.ntmps40
        go_wp2_with fail
        have k0 : (w.alloc (.cells #[.slice A ns.length c, .slice B ls.length d] 36)).cell? ⟨w.heap.size, 0, none⟩ = some (.slice A ns.length c) := by go_simp
        have k1 : (w.alloc (.cells #[.slice A ns.length c, .slice B ls.length d] 36)).cell? ⟨w.heap.size, 1, none⟩ = some (.slice B ls.length d) := by go_simp
        have hx : Ext w (w.alloc (.cells #[.slice A ns.length c, .slice B ls.length d] 36)) := (by repeat first | exact Ext.refl _ | assumption | refine Ext.drew ?_ | refine Ext.alloc ?_ _ | refine Ext.setCell ?_ (by simp) | refine Ext.setCell ?_ (by simp; omega) | refine Ext.trans ?_ (by assumption))
        have hsz1 : w.heap.size + 1 = (w.alloc (.cells #[.slice A ns.length c, .slice B ls.length d] 36)).heap.size := by simp
        generalize (w.alloc (.cells #[.slice A ns.length c, .slice B ls.length d] 36)) = w0 at *
        (try rw [hsz1])
        refine (IsWhole_i _ _ _ _ ns ls _ (h.ext hx)).mono ?_
        rintro e w1 ⟨rfl, hb⟩
        have k0 := hb.lit k0
        have k1 := hb.lit k1
        have hx := hx.trans hb
        clear hb
        rw [hw]
        go_wp2_with fail
        refine (rising_c X xc xs 0 _ _ hxl (hX.ext hx)).mono ?_
        rintro e w' ⟨rfl, rfl⟩
        rw [hr]
        go_wp2
        go_ret
        exact ⟨ret_b (by rw [HV.out]; simp [hlen]), hx⟩
    · have hr' := eq_false_of_ne_true hr
      go_enter Try.func40, Try.ntmps40
      go_wp2_with fail
      have k0 : (w.alloc (.cells #[.slice A ns.length c, .slice B ls.length d] 36)).cell? ⟨w.heap.size, 0, none⟩ = some (.slice A ns.length c) := by go_simp
      have k1 : (w.alloc (.cells #[.slice A ns.length c, .slice B ls.length d] 36)).cell? ⟨w.heap.size, 1, none⟩ = some (.slice B ls.length d) := by go_simp
      have hx : Ext w (w.alloc (.cells #[.slice A ns.length c, .slice B ls.length d] 36)) := (by repeat first | exact Ext.refl _ | assumption | refine Ext.drew ?_ | refine Ext.alloc ?_ _ | refine Ext.setCell ?_ (by simp) | refine Ext.setCell ?_ (by simp; omega) | refine Ext.trans ?_ (by assumption))
      have hsz1 : w.heap.size + 1 = (w.alloc (.cells #[.slice A ns.length c, .slice B ls.length d] 36)).heap.size := by simp
      generalize (w.alloc (.cells #[.slice A ns.length c, .slice B ls.length d] 36)) = w0 at *
      (try rw [hsz1])
      refine (IsWhole_i _ _ _ _ ns ls _ (h.ext hx)).mono ?_
      rintro e w1 ⟨rfl, hb⟩
      have k0 := hb.lit k0
      have k1 := hb.lit k1
      have hx := hx.trans hb
      clear hb
      rw [hw]
      go_wp2_with fail
      refine (rising_c X xc xs 0 _ _ hxl (hX.ext hx)).mono ?_
      rintro e w' ⟨rfl, rfl⟩
      rw [hr']
      go_wp2
      go_ret
      exact ⟨ret_b (by rw [HV.out, hr']; simp), hx⟩
  · have hw' := eq_false_of_ne_true hw
    go_enter Try.func40, Try.ntmps40
    go_wp2_with fail
    have k0 : (w.alloc (.cells #[.slice A ns.length c, .slice B ls.length d] 36)).cell? ⟨w.heap.size, 0, none⟩ = some (.slice A ns.length c) := by go_simp
    have k1 : (w.alloc (.cells #[.slice A ns.length c, .slice B ls.length d] 36)).cell? ⟨w.heap.size, 1, none⟩ = some (.slice B ls.length d) := by go_simp
    have hx : Ext w (w.alloc (.cells #[.slice A ns.length c, .slice B ls.length d] 36)) := (by repeat first | exact Ext.refl _ | assumption | refine Ext.drew ?_ | refine Ext.alloc ?_ _ | refine Ext.setCell ?_ (by simp) | refine Ext.setCell ?_ (by simp; omega) | refine Ext.trans ?_ (by assumption))
    have hsz1 : w.heap.size + 1 = (w.alloc (.cells #[.slice A ns.length c, .slice B ls.length d] 36)).heap.size := by simp
    generalize (w.alloc (.cells #[.slice A ns.length c, .slice B ls.length d] 36)) = w0 at *
    (try rw [hsz1])
    refine (IsWhole_i _ _ _ _ ns ls _ (h.ext hx)).mono ?_
    rintro e w1 ⟨rfl, hb⟩
    have k0 := hb.lit k0
    have k1 := hb.lit k1
    have hx := hx.trans hb
    clear hb
    rw [hw']
    go_wp2
    go_ret
    exact ⟨ret_b (by rw [HV.out, hw']; simp), hx⟩

set_option maxRecDepth 100000 in
set_option maxHeartbeats 4000000 in
theorem IsSpanning_s (A B : Option Addr) (c d : Nat) (ns ls : List P2) (X : Option Addr) (xc : Nat) (xs : List Int) (w : World) (h : Wn w A c B d ns ls) (hX : In w w.heap.size X xs) (hxl : xs.length ≤ 2000000) :
    Calls Try.prog 39 #[.agg #[.slice A ns.length c, .slice B ls.length d], .slice X xs.length xc] w fun e w' => e = .returned (.bool (vIsSpanning ns ls xs)) ∧ Ext w w' := by
  have HV : Hid (vIsSpanning ns ls xs = (whole ns ls && ris xs 0 (ls.length - 1) && decide ((xs.length : Int) = (ns.length : Int) - 1) && (List.range xs.length).all (fun j => joins ns.length (spairs ls xs) j))) := Lib.hid rfl
  have hnl := h.hl
  have hml := h.hm
  by_cases hw : whole ns ls = true
  · obtain ⟨hW, hm0⟩ := whole_ok hw
    have hn := hW.hi
    have hm := hW.le
    have hn1 := hW.lo
    by_cases hr : ris xs 0 (ls.length - 1) = true
    · by_cases hlen : (xs.length : Int) = (ns.length : Int) - 1
      · have HB : Hid (∀ j : Nat, j < xs.length → 0 ≤ gi xs j ∧ gi xs j ≤ (ls.length : Int) - 1) := Lib.hid (fun _ hj => ris_bd hr hj)
        have HY := Lib.hid (vIs_yes hw hr hlen).1
        have Hv := Lib.hid (vd_of_ok hW)
        have hne : ((xs.length : Int) != (ns.length : Int) - 1) = false := by simp [hlen]
        have hxn : xs.length < ns.length := by omega
        have HG : Hid (∀ j : Nat, j < xs.length → gp (spairs ls xs) j = gp ls (gi xs j)) := Lib.hid (fun _ hj => spairs_gp hj)
        clear hlen hW HV
        go_enter Try.func39, Try.ntmps39
        go_wp2_with fail
        have k0 : (w.alloc (.cells #[.slice A ns.length c, .slice B ls.length d] 36)).cell? ⟨w.heap.size, 0, none⟩ = some (.slice A ns.length c) := by go_simp
        have k1 : (w.alloc (.cells #[.slice A ns.length c, .slice B ls.length d] 36)).cell? ⟨w.heap.size, 1, none⟩ = some (.slice B ls.length d) := by go_simp
        have hx : Ext w (w.alloc (.cells #[.slice A ns.length c, .slice B ls.length d] 36)) := (by repeat first | exact Ext.refl _ | assumption | refine Ext.drew ?_ | refine Ext.alloc ?_ _ | refine Ext.setCell ?_ (by simp) | refine Ext.setCell ?_ (by simp; omega) | refine Ext.trans ?_ (by assumption))
        have hsz1 : w.heap.size + 1 = (w.alloc (.cells #[.slice A ns.length c, .slice B ls.length d] 36)).heap.size := by simp
        generalize (w.alloc (.cells #[.slice A ns.length c, .slice B ls.length d] 36)) = w0 at *
        (try rw [hsz1])
        refine (IsWhole_s _ _ _ _ ns ls _ (h.ext hx)).mono ?_
        rintro e w1 ⟨rfl, hb⟩
        have k0 := hb.lit k0
        have k1 := hb.lit k1
        have hx := hx.trans hb
        clear hb
        rw [hw]
        go_wp2_with fail
        refine (l16List_c X xc xs ls.length _ (by omega) hxl (hX.ext hx)).mono ?_
        rintro e w2 ⟨rfl, hb⟩
        have k0 := hb.lit k0
        have k1 := hb.lit k1
        have hx := hx.trans hb
        clear hb
        rw [hr]
        go_wp2_with fail
        refine (l16Groups_c ns.length _ (by omega)).mono ?_
        rintro e w3 ⟨v, rfl, hg, hb⟩
        have hgs1 : ∀ q, v.ownBlock = some q → w2.heap.size ≤ q := fun q hq => (hg.blk q hq).1
        have hx2 := hx
        have kk1 := k1
        have hb12 := hb
        have k0 := hb.lit k0
        have k1 := hb.lit k1
        have hx := hx.trans hb
        clear hb
        have HG0 : Hid (ids ns.length = grp ns.length (spairs ls xs) 0) := Lib.hid rfl
        rw [HG0.out] at hg
        generalize hPP : spairs ls xs = PP at *
        clear hPP
        have HGS : Hid (∀ j, grp ns.length PP (j + 1) = joinG (grp ns.length PP j) (gp PP j).1 (gp PP j).2) := Lib.hid (fun _ => rfl)
        have HJ : Hid (∀ j, joins ns.length PP j = (gi (grp ns.length PP j) (gp PP j).1 != gi (grp ns.length PP j) (gp PP j).2)) := Lib.hid (fun _ => rfl)
        go_wp2_with fail
        go_loopw [6, 7] (fun i _ wr => ∃ j : Nat, j ≤ xs.length ∧ i = .int .i64 j ∧ Hid (∀ i, i < j → joins ns.length PP i = true) ∧ OwI wr w2.heap.size v (grp ns.length PP j) ∧ Ext w2 wr) (fun i _ _ => xs.length - (intOf i).toNat)
        case atStart => exact ⟨0, by omega, rfl, Lib.hid (fun i hi => by omega), hg, hb12⟩
        case round =>
          clear hg hx k0 k1
          obtain ⟨j, hj, rfl, ha, hg, hxr⟩ := hrel
          obtain ⟨wo, rfl⟩ : ∃ x : World, x = wr := ⟨_, rfl⟩
          have hx0 := hx2.trans hxr
          have k1 := hxr.lit kk1
          by_cases hlt : j < xs.length
          · obtain ⟨xb, xo, rfl, hxb, c0⟩ := (hX.ext hx0).gi_ hlt
            have hb := HB.out j hlt
            have HGj := Lib.hid (HG.out j hlt)
            have HJj := Lib.hid (HJ.out j)
            have HSj := Lib.hid (HGS.out j)
            have HGl := Lib.hid (grp_len ns.length PP j)
            have step : joins ns.length PP j = true → Hid (∀ i, i < j + 1 → joins ns.length PP i = true) := fun hk => Lib.hid (fun i hi => by
              rcases Nat.lt_succ_iff_lt_or_eq.1 hi with h | h
              · exact ha.out i h
              · subst h; exact hk)
            generalize gi xs j = x at *
            obtain ⟨y, rfl⟩ := Int.eq_ofNat_of_zero_le hb.1
            have hy : y < ls.length := by omega
            obtain ⟨b, off, rfl, hbb, c1, c2⟩ := (h.ext hx0).g.gp_ hy
            obtain ⟨f, t, hft, hf, ht⟩ := Hv.out (gp ls y) (by rw [gp_nat ls y hy]; exact List.getElem_mem hy)
            rw [hft] at c1 c2 HGj
            rw [HGj.out] at HJj HSj
            clear hft HGj hb
            have hyi : (y : Int) < ls.length := by omega
            have hji : (j : Int) < xs.length := by omega
            go_wp2_with fail
            go_cut [7] (fun s wx => ∃ g7, s = .pointer (some ⟨g7, 0, none⟩) ∧ wx.cell? ⟨g7, 0, none⟩ = some (.int .i64 (f : Int)) ∧ wx.cell? ⟨g7, 1, none⟩ = some (.int .i64 (t : Int)) ∧ Ext wo wx)
            case first =>
              have d0 := cell_regrown k1
              have d1 := cell_regrown c0
              have d2 := cell_regrown c1
              have d3 := cell_regrown c2
              refine rx_open [(true, 0, some 38, 4), (true, 1, some 39, 274877906944), (true, 0, some 40, 2), (true, 0, some 41, 64), (true, 12, some 42, 3298534883328), (true, 16, some 43, 4398046511104), (true, 34, some 44, 9345848836096), (true, 64, some 45, 17592186044416), (false, 0, some 7, 0), (false, 511, none, 35184372088960)] 512 10 mixd rfl (by kernel_rfl) (by kernel_rfl) (by kernel_rfl) ?_
              refine rx_run (run := [0, 1, 2, 3, 4, 5, 6, 7]) (k := 2) (m' := 255) rfl (by kernel_rfl) (by kernel_rfl) (by kernel_rfl) (fm_cons rfl <| fm_cons rfl <| fm_cons rfl <| fm_cons rfl <| fm_cons rfl <| fm_cons rfl <| fm_cons rfl <| fm_cons rfl <| List.filterMap_nil) (by repeat first | exact Ext.refl _ | assumption | refine Ext.drew ?_ | refine Ext.alloc ?_ _ | refine Ext.setCell ?_ (by simp) | refine Ext.setCell ?_ (by simp; omega) | refine Ext.trans ?_ (by assumption)) ?_
              repeat (go_big_quiet_step ((fail)))
              refine wpQuiet_nil ?_
              refine rx_op 8 (k := 1) (m' := 511) rfl rfl (by kernel_rfl) (by kernel_rfl) ?_
              go_wp2
              refine rx_on (by repeat first | exact Ext.refl _ | assumption | refine Ext.drew ?_ | refine Ext.alloc ?_ _ | refine Ext.setCell ?_ (by simp) | refine Ext.setCell ?_ (by simp; omega) | refine Ext.trans ?_ (by assumption)) ?_
              refine rx_op 9 (k := 0) (m' := 1023) rfl rfl (by kernel_rfl) (by kernel_rfl) ?_
              go_wp2
              refine rx_lst (by decide) ?_
              refine rx_end (by kernel_rfl) ?_
              all_goals (go_wp2; go_meet; exact ⟨_, rfl, by go_simp, by go_simp, (by repeat first | exact Ext.refl _ | assumption | refine Ext.drew ?_ | refine Ext.alloc ?_ _ | refine Ext.setCell ?_ (by simp) | refine Ext.setCell ?_ (by simp; omega) | refine Ext.trans ?_ (by assumption))⟩)
            case rest =>
              obtain ⟨g7, rfl, m1, m2, hb⟩ := hcut
              obtain ⟨w5, rfl⟩ : ∃ x : World, x = wc := ⟨_, rfl⟩
              have hg := hg.ext hb
              have hxr := hxr.trans hb
              clear hb c0 c1 c2 k1
              go_wp2_with fail
              refine (l16Join_c v _ f t _ hg (by rw [HGl.out]; omega) (by rw [HGl.out]; exact hf) (by rw [HGl.out]; exact ht)).mono ?_
              rintro e w6 ⟨rfl, hg, hgb⟩
              have hxr := gb_ext2 hxr hgb hgs1
              rw [← HJj.out]
              rw [← HSj.out] at hg
              by_cases hP : joins ns.length PP j = true
              · have hk := step hP
                rw [hP]
                clear step
                go_wp2
                go_roundw
                case rel => exact ⟨j + 1, by omega, by go_num, hk, hg, hxr⟩
                case measure => first | (simp [intOf]; done) | (simp [intOf]; omega)
              · rw [eq_false_of_ne_true hP]
                clear step
                go_wp2
                go_ret
                refine ⟨ret_b ?_, hx2.trans hxr⟩
                symm
                rw [Bool.eq_false_iff]
                intro e
                exact hP (HY.out.1 e j hlt)
          · obtain rfl : j = xs.length := by omega
            have HT := Lib.hid (HY.out.2 ha.out)
            go_wp2
            go_ret
            exact ⟨ret_b (by rw [HT.out]), hx0⟩
      · have hne : ((xs.length : Int) != (ns.length : Int) - 1) = true := by simp [hlen]
        go_enter Try.func39, Try.ntmps39
        go_wp2_with fail
        have k0 : (w.alloc (.cells #[.slice A ns.length c, .slice B ls.length d] 36)).cell? ⟨w.heap.size, 0, none⟩ = some (.slice A ns.length c) := by go_simp
        have k1 : (w.alloc (.cells #[.slice A ns.length c, .slice B ls.length d] 36)).cell? ⟨w.heap.size, 1, none⟩ = some (.slice B ls.length d) := by go_simp
        have hx : Ext w (w.alloc (.cells #[.slice A ns.length c, .slice B ls.length d] 36)) := (by repeat first | exact Ext.refl _ | assumption | refine Ext.drew ?_ | refine Ext.alloc ?_ _ | refine Ext.setCell ?_ (by simp) | refine Ext.setCell ?_ (by simp; omega) | refine Ext.trans ?_ (by assumption))
        have hsz1 : w.heap.size + 1 = (w.alloc (.cells #[.slice A ns.length c, .slice B ls.length d] 36)).heap.size := by simp
        generalize (w.alloc (.cells #[.slice A ns.length c, .slice B ls.length d] 36)) = w0 at *
        (try rw [hsz1])
        refine (IsWhole_s _ _ _ _ ns ls _ (h.ext hx)).mono ?_
        rintro e w1 ⟨rfl, hb⟩
        have k0 := hb.lit k0
        have k1 := hb.lit k1
        have hx := hx.trans hb
        clear hb
        rw [hw]
        go_wp2_with fail
        refine (l16List_c X xc xs ls.length _ (by omega) hxl (hX.ext hx)).mono ?_
        rintro e w2 ⟨rfl, hb⟩
        have k0 := hb.lit k0
        have k1 := hb.lit k1
        have hx := hx.trans hb
        clear hb
        rw [hr]
        go_wp2
        go_ret
        exact ⟨ret_b (by rw [HV.out]; simp [hlen]), hx⟩
    · have hr' := eq_false_of_ne_true hr
      go_enter Try.func39, Try.ntmps39
      go_wp2_with fail
      have k0 : (w.alloc (.cells #[.slice A ns.length c, .slice B ls.length d] 36)).cell? ⟨w.heap.size, 0, none⟩ = some (.slice A ns.length c) := by go_simp
      have k1 : (w.alloc (.cells #[.slice A ns.length c, .slice B ls.length d] 36)).cell? ⟨w.heap.size, 1, none⟩ = some (.slice B ls.length d) := by go_simp
      have hx : Ext w (w.alloc (.cells #[.slice A ns.length c, .slice B ls.length d] 36)) := (by repeat first | exact Ext.refl _ | assumption | refine Ext.drew ?_ | refine Ext.alloc ?_ _ | refine Ext.setCell ?_ (by simp) | refine Ext.setCell ?_ (by simp; omega) | refine Ext.trans ?_ (by assumption))
      have hsz1 : w.heap.size + 1 = (w.alloc (.cells #[.slice A ns.length c, .slice B ls.length d] 36)).heap.size := by simp
      generalize (w.alloc (.cells #[.slice A ns.length c, .slice B ls.length d] 36)) = w0 at *
      (try rw [hsz1])
      refine (IsWhole_s _ _ _ _ ns ls _ (h.ext hx)).mono ?_
      rintro e w1 ⟨rfl, hb⟩
      have k0 := hb.lit k0
      have k1 := hb.lit k1
      have hx := hx.trans hb
      clear hb
      rw [hw]
      go_wp2_with fail
      refine (l16List_c X xc xs ls.length _ (by omega) hxl (hX.ext hx)).mono ?_
      rintro e w2 ⟨rfl, hb⟩
      have k0 := hb.lit k0
      have k1 := hb.lit k1
      have hx := hx.trans hb
      clear hb
      rw [hr']
      go_wp2
      go_ret
      exact ⟨ret_b (by rw [HV.out, hr']; simp), hx⟩
  · have hw' := eq_false_of_ne_true hw
    go_enter Try.func39, Try.ntmps39
    go_wp2_with fail
    have k0 : (w.alloc (.cells #[.slice A ns.length c, .slice B ls.length d] 36)).cell? ⟨w.heap.size, 0, none⟩ = some (.slice A ns.length c) := by go_simp
    have k1 : (w.alloc (.cells #[.slice A ns.length c, .slice B ls.length d] 36)).cell? ⟨w.heap.size, 1, none⟩ = some (.slice B ls.length d) := by go_simp
    have hx : Ext w (w.alloc (.cells #[.slice A ns.length c, .slice B ls.length d] 36)) := (by repeat first | exact Ext.refl _ | assumption | refine Ext.drew ?_ | refine Ext.alloc ?_ _ | refine Ext.setCell ?_ (by simp) | refine Ext.setCell ?_ (by simp; omega) | refine Ext.trans ?_ (by assumption))
    have hsz1 : w.heap.size + 1 = (w.alloc (.cells #[.slice A ns.length c, .slice B ls.length d] 36)).heap.size := by simp
    generalize (w.alloc (.cells #[.slice A ns.length c, .slice B ls.length d] 36)) = w0 at *
    (try rw [hsz1])
    refine (IsWhole_s _ _ _ _ ns ls _ (h.ext hx)).mono ?_
    rintro e w1 ⟨rfl, hb⟩
    have k0 := hb.lit k0
    have k1 := hb.lit k1
    have hx := hx.trans hb
    clear hb
    rw [hw']
    go_wp2
    go_ret
    exact ⟨ret_b (by rw [HV.out, hw']; simp), hx⟩
end Go.Proofs.Ytpainmnekgnpeaa
