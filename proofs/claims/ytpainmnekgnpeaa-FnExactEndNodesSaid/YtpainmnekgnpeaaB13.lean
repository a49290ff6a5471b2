import Derived.Test.YtpainmnekgnpeaaB12
import Derived.Test.YtpainmnekgnpeaaM4
import Derived.Deep.DeepCutAuto
namespace Go.Proofs.Ytpainmnekgnpeaa
open Go.RowKit Go.Sort Go.BigFrame

theorem dEnds_ok {ns ls : List P2} (h : WOk ns ls) {d : Nat} (hd : d < 2 * ls.length) : ∃ i j : Nat, dEnds ls d = ((i : Int), (j : Int)) ∧ i < ns.length ∧ j < ns.length := by
  obtain ⟨i, j, e, hi, hj⟩ := vd_of_ok h (gp ls (d / 2 : Nat)) (by rw [gp_nat ls (d / 2) (by omega)]; exact List.getElem_mem _)
  unfold dEnds
  rw [e]
  by_cases h2 : d % 2 = 1
  · rw [if_pos h2]; exact ⟨j, i, rfl, hj, hi⟩
  · rw [if_neg h2]; exact ⟨i, j, rfl, hi, hj⟩
theorem nok_at {ns ls : List P2} (h : WOk ns ls) {i : Nat} (hi : i < ns.length) : nok (gp ns i) = true := h.ok i hi

def mid (l : List Nat) (a : Nat) (y : Int) : List Int := nl (l.take a) ++ y :: nl (l.drop a)
section
variable {l : List Nat} {a : Nat} {y : Int}
theorem mid_len (h : a ≤ l.length) : (mid l a y).length = l.length + 1 := by simp [mid, nl]; omega
theorem mid_at (h : a ≤ l.length) : gi (mid l a y) a = y := by
  rw [gi_nat _ _ (by rw [mid_len h]; omega)]
  unfold mid
  rw [List.getElem_append_right (by rw [nl_len, List.length_take]; omega)]
  simp [nl_len, List.length_take, Nat.min_eq_left h]
theorem mid_lt (h : a < l.length) : gi (mid l (a + 1) y) a = (l.getD a 0 : Nat) := by
  rw [gi_nat _ _ (by rw [mid_len h]; omega)]
  unfold mid
  rw [List.getElem_append_left (by rw [nl_len, List.length_take]; omega)]
  simp [nl, h]
theorem mid_set (h : a ≤ l.length) (z : Int) : (mid l a y).set a z = mid l a z := by
  unfold mid
  rw [List.set_append_right _ _ (by rw [nl_len, List.length_take]; omega), nl_len, List.length_take, Nat.min_eq_left h, Nat.sub_self, List.set_cons_zero]
theorem mid_shift (h : a < l.length) : (mid l (a + 1) y).set (a + 1) (l.getD a 0 : Nat) = mid l a (l.getD a 0 : Nat) := by
  rw [mid_set h]
  unfold mid
  rw [List.take_succ_eq_append_getElem h, List.drop_eq_getElem_cons (i := a) h, getD_at l h]
  unfold nl
  rw [List.map_append, List.append_assoc]
  rfl
theorem mid_start (j : Int) : mid l l.length j = nl l ++ [j] := by simp [mid, nl]
end
theorem mid_ins {lt : Nat → Nat → Bool} {d : Nat} {l : List Nat} {a : Nat} (h : insPos lt d l l.length = a) : mid l a d = nl (ins lt d l) := by
  unfold ins mid
  rw [h]
  simp [nl]

set_option maxRecDepth 100000 in
set_option maxHeartbeats 4000000 in
theorem l05Around_s (A B : Option Addr) (c d : Nat) (ns ls : List P2) (k : Nat) (w : World) (h : Wn w A c B d ns ls) (hW : WOk ns ls) (hk : k < ns.length) :
    Calls Try.prog 85 #[.agg #[.slice A ns.length c, .slice B ls.length d], .int .i64 (k : Int)] w fun e w' => ∃ v, e = .returned v ∧ OwI w' w.heap.size v (nl (arnd ns ls k)) ∧ Ext w w' := by
  have hn := hW.hi
  have hm := hW.le
  have HW := Lib.hid hW
  have HV : Hid (arnd ns ls k = arnN ns ls k (2 * ls.length)) := Lib.hid rfl
  clear hW
  go_enter Try.func85, Try.ntmps85
  go_wp2_with fail
  have k0 : (w.alloc (.cells #[.slice A ns.length c, .slice B ls.length d] 36)).cell? ⟨w.heap.size, 0, none⟩ = some (.slice A ns.length c) := by go_simp
  have k1 : (w.alloc (.cells #[.slice A ns.length c, .slice B ls.length d] 36)).cell? ⟨w.heap.size, 1, none⟩ = some (.slice B ls.length d) := by go_simp
  have hx : Ext w (w.alloc (.cells #[.slice A ns.length c, .slice B ls.length d] 36)) := (by repeat first | exact Ext.refl _ | assumption | refine Ext.drew ?_ | refine Ext.alloc ?_ _ | refine Ext.setCell ?_ (by simp) | refine Ext.setCell ?_ (by simp; omega) | refine Ext.trans ?_ (by assumption))
  have hsz1 : w.heap.size + 1 = (w.alloc (.cells #[.slice A ns.length c, .slice B ls.length d] 36)).heap.size := by simp
  generalize (w.alloc (.cells #[.slice A ns.length c, .slice B ls.length d] 36)) = w1 at *
  (try rw [hsz1])
  have hv0 : OzI (w1.alloc (.cells #[] 3)) w.heap.size w1.heap.size (.slice (some ⟨w1.heap.size, 0, none⟩) 0 0) (nl (arnN ns ls k 0)) := OzI.zero _ (by omega) rfl
  have hx2 : Ext w1 (w1.alloc (.cells #[] 3)) := (by repeat first | exact Ext.refl _ | assumption | refine Ext.drew ?_ | refine Ext.alloc ?_ _ | refine Ext.setCell ?_ (by simp) | refine Ext.setCell ?_ (by simp; omega) | refine Ext.trans ?_ (by assumption))
  generalize (w1.alloc (.cells #[] 3)) = w2 at *
  have kk0 := k0
  have kk1 := k1
  go_loopw [5, 6, 7, 8, 9, 10, 11] (fun v i _ _ _ _ _ wr => ∃ j : Nat, j ≤ 2 * ls.length ∧ i = .int .i64 j ∧ OzI wr w.heap.size w1.heap.size v (nl (arnN ns ls k j)) ∧ Ext w1 wr) (fun _ i _ _ _ _ _ _ => 2 * ls.length - (intOf i).toNat)
  case atStart => exact ⟨0, by omega, rfl, hv0, hx2⟩
  case round =>
    clear hv0 hx2
    obtain ⟨j, hj, rfl, hv, hxr⟩ := hrel
    obtain ⟨wo, rfl⟩ : ∃ x : World, x = wr := ⟨_, rfl⟩
    have hx0 := hx.trans hxr
    have k0 := hxr.lit k0
    have k1 := hxr.lit k1
    by_cases hlt : j < 2 * ls.length
    · have hji : (j : Int) < 2 * (ls.length : Int) := by omega
      go_wp2_with fail
      refine (l05Ends_s A B c d ns ls j _ (h.ext hx0) hlt).mono ?_
      rintro e w3 ⟨rfl, hb⟩
      obtain ⟨f, t, hft, hf, ht⟩ := dEnds_ok HW.out hlt
      rw [hft]
      have hx0 := hx0.trans hb
      have hxr := hxr.trans hb
      have hv := hv.ext hb
      have k0 := hb.lit k0
      have k1 := hb.lit k1
      clear hb
      by_cases hfk : f = k
      · obtain rfl := hfk
        have hs : arnN ns ls f (j + 1) = ins (dlt ns ls f) j (arnN ns ls f j) := by
          show (if (dEnds ls j).1 = (f : Int) then _ else _) = _
          rw [if_pos (by rw [hft])]
        have hmem : ∀ x ∈ arnN ns ls f j, x < j := fun x hx => (arnN_mem.1 hx).1
        have hln := arnN_len ns ls f j
        have hft2 : (dEnds ls j).2 = (t : Int) := by rw [hft]
        have Hs := Lib.hid hs
        have Hmem := Lib.hid hmem
        clear hs hft hmem
        generalize hl : arnN ns ls f j = l at *
        clear hl
        have HL : Hid ((nl l).length = l.length) := Lib.hid (nl_len l)
        have hsz := hxr.size
        obtain ⟨A5, c5, rfl⟩ := hv.shape HL.out
        go_wp2_with (at_builtin; refine az_int2 _ _ rfl rfl rfl (hv.ext ((Ext.refl w3).alloc _)) (g := w3.heap.size) (y := j) (by first | rfl | simp) (by go_simp) (by rw [HL.out]; omega) (by simp; omega) ?_)
        intro v' w4 h1 h3
        have hxr := h3 _ (hxr.trans (by repeat first | exact Ext.refl _ | assumption | refine Ext.drew ?_ | refine Ext.alloc ?_ _ | refine Ext.setCell ?_ (by simp) | refine Ext.setCell ?_ (by simp; omega) | refine Ext.trans ?_ (by assumption))) (Nat.le_refl _)
        clear h3 k0 k1 hx0
        have hx0 := hx.trans hxr
        obtain ⟨gb, cp, rfl, hcap, hgB, hgw, -, -⟩ := h1.gi_ (j := 0) (by simp)
        have HL2 : Hid ((nl l ++ [(j : Int)]).length = l.length + 1) := Lib.hid (by rw [List.length_append, HL.out]; rfl)
        rw [HL2.out] at hcap h1
        rw [HL2.out]
        rw [← mid_start] at h1
        have HP : Hid (∀ x : Nat, dlt ns ls f j x = bfa (gp ns f) (gp ns t) (gp ns (dEnds ls x).2)) := Lib.hid (fun x => by rw [← hft2]; rfl)
        generalize dlt ns ls f = P at *
        go_wp2_with fail
        go_loopw [9, 10, 11] (fun i _ _ wr => ∃ (a : Nat) (y : Int), a ≤ l.length ∧ i = .int .i64 a ∧ OwI wr w1.heap.size (.slice (some ⟨gb, 0, none⟩) (l.length + 1) cp) (mid l a y) ∧ insPos P j l l.length = insPos P j l a ∧ Ext w1 wr) (fun i _ _ _ => (intOf i).toNat)
        case atStart => exact ⟨l.length, j, Nat.le_refl _, rfl, h1, rfl, hxr⟩
        case round =>
          clear h1 hx0 hxr
          obtain ⟨a, y, ha, rfl, hv, hpos, hxj⟩ := hrel
          obtain ⟨w5, rfl⟩ : ∃ x : World, x = wr := ⟨_, rfl⟩
          have hx0 := hx.trans hxj
          have k0 := hxj.lit kk0
          have k1 := hxj.lit kk1
          have Hpos := Lib.hid hpos
          clear hpos
          rcases a with _ | a
          · skip
            obtain ⟨e1, e2⟩ := hv.cel (j := 0) (by rw [mid_len ha]; omega)
            have hset := hv.set_ (by rw [mid_len ha]) 0 (j : Int)
            rw [mid_set ha, mid_ins (a := 0) Hpos.out] at hset
            have Hset := Lib.hid hset
            clear hset hv
            go_wp2
            go_roundw
            case rel => exact ⟨j + 1, by omega, by go_num, .of (by rw [Hs.out]; exact Hset.out), hxj.setCell (by simpa using hgB)⟩
            case measure => first | (simp [intOf]; done) | (simp [intOf]; omega)
          · have hal : a < l.length := by omega
            have c1 := (hv.cel (j := a) (by rw [mid_len ha]; omega)).1
            rw [mid_lt hal] at c1
            have hxm : l.getD a 0 ∈ l := by rw [getD_at l hal]; exact List.getElem_mem hal
            have hxl : l.getD a 0 < 2 * ls.length := by have := Hmem.out _ hxm; omega
            have Hsh : Hid ((mid l (a + 1) y).set (a + 1) (l.getD a 0 : Nat) = mid l a (l.getD a 0 : Nat)) := Lib.hid (mid_shift hal)
            have Hps : Hid (insPos P j l (a + 1) = if P j (l.getD a 0) = true then insPos P j l a else a + 1) := Lib.hid rfl
            generalize l.getD a 0 = x at *
            obtain ⟨f2, t2, hft', hf2, ht2⟩ := dEnds_ok HW.out hxl
            have HFT := Lib.hid hft'
            have HPx : Hid (P j x = bfa (gp ns f) (gp ns t) (gp ns t2)) := Lib.hid (by rw [HP.out, hft'])
            clear hft' hxm
            go_upto_region 10 with fail
            go_cut [11] (fun s wx => s = .int .i64 t2 ∧ Ext w5 wx)
            case first =>
              have d0 := cell_regrown k0
              have d1 := cell_regrown k1
              have d2 := cell_regrown c1
              refine rx_open [(true, 0, some 39, 4), (true, 0, some 40, 32), (true, 0, some 41, 512), (true, 4, some 42, 2199023255552), (true, 10, some 43, 5497558138880), (true, 16, some 44, 8796093022208), (false, 33, some 45, 18141941858304), (true, 64, some 38, 35184372088832), (true, 128, some 46, 274877906944), (true, 128, some 47, 274877906944), (true, 511, some 10, 70368744177664), (true, 2047, some 11, 140737488355328)] 12 12 mixd rfl (by kernel_rfl) (by kernel_rfl) (by kernel_rfl) ?_
              refine rx_run (run := [0, 1, 2, 3, 4, 5]) (k := 6) (m' := 63) rfl (by kernel_rfl) (by kernel_rfl) (by kernel_rfl) (fm_cons rfl <| fm_cons rfl <| fm_cons rfl <| fm_cons rfl <| fm_cons rfl <| fm_cons rfl <| List.filterMap_nil) (by repeat first | exact Ext.refl _ | assumption | refine Ext.drew ?_ | refine Ext.alloc ?_ _ | refine Ext.setCell ?_ (by simp) | refine Ext.setCell ?_ (by simp; omega) | refine Ext.trans ?_ (by assumption)) ?_
              repeat (go_big_quiet_step ((fail)))
              refine wpQuiet_nil ?_
              refine rx_op 6 (k := 5) (m' := 127) rfl rfl (by kernel_rfl) (by kernel_rfl) ?_
              go_wp2_with ((go_at_call 110; refine (l05Ends_s A B c d ns ls x _ (h.ext (hx0.trans (by repeat first | exact Ext.refl _ | assumption | refine Ext.drew ?_ | refine Ext.alloc ?_ _ | refine Ext.setCell ?_ (by simp) | refine Ext.setCell ?_ (by simp; omega) | refine Ext.trans ?_ (by assumption)))) hxl).mono ?_; rw [HFT.out]; rintro e w6 ⟨rfl, hb6⟩))
              refine rx_on (by repeat first | exact Ext.refl _ | assumption | refine Ext.drew ?_ | refine Ext.alloc ?_ _ | refine Ext.setCell ?_ (by simp) | refine Ext.setCell ?_ (by simp; omega) | refine Ext.trans ?_ (by assumption)) ?_
              refine rx_run (run := [7, 8, 9, 10, 11]) (k := 0) (m' := 4095) rfl (by kernel_rfl) (by kernel_rfl) (by kernel_rfl) (fm_cons rfl <| fm_cons rfl <| fm_cons rfl <| fm_cons rfl <| fm_cons rfl <| List.filterMap_nil) (by repeat first | exact Ext.refl _ | assumption | refine Ext.drew ?_ | refine Ext.alloc ?_ _ | refine Ext.setCell ?_ (by simp) | refine Ext.setCell ?_ (by simp; omega) | refine Ext.trans ?_ (by assumption)) ?_
              repeat (go_big_quiet_step ((fail)))
              refine wpQuiet_nil ?_
              refine rx_end (by kernel_rfl) ?_
              all_goals (go_wp2; go_meet; exact ⟨rfl, (by repeat first | exact Ext.refl _ | assumption | refine Ext.drew ?_ | refine Ext.alloc ?_ _ | refine Ext.setCell ?_ (by simp) | refine Ext.setCell ?_ (by simp; omega) | refine Ext.trans ?_ (by assumption))⟩)
            case rest =>
              obtain ⟨rfl, hb⟩ := hcut
              obtain ⟨w6, rfl⟩ : ∃ x : World, x = wc := ⟨_, rfl⟩
              have hx0 := hx0.trans hb
              have hxj := hxj.trans hb
              have k0 := hb.lit k0
              have k1 := hb.lit k1
              have c1 := hb.lit c1
              have hv := hv.ext hb
              clear hb
              obtain ⟨bb, off, rfl, hbb, n1, n2⟩ := (h.ext hx0).h.gp_ hf
              obtain ⟨b', off', he, hbb', n3, n4⟩ := (h.ext hx0).h.gp_ ht
              obtain ⟨rfl, rfl⟩ : bb = b' ∧ off = off' := by simpa using he
              clear he hbb'
              obtain ⟨b', off', he, hbb', n5, n6⟩ := (h.ext hx0).h.gp_ ht2
              obtain ⟨rfl, rfl⟩ : bb = b' ∧ off = off' := by simpa using he
              clear he hbb'
              have q1 := nok_at HW.out hf
              have q2 := nok_at HW.out ht
              have q3 := nok_at HW.out ht2
              have u1 : (f : Int) < ns.length := by omega
              have u2 : (t : Int) < ns.length := by omega
              have u3 : (t2 : Int) < ns.length := by omega
              generalize gp ns f = X at *
              generalize gp ns t = Y at *
              generalize gp ns t2 = Z at *
              obtain ⟨ax, ay⟩ := X
              obtain ⟨bx, by'⟩ := Y
              obtain ⟨cx, cy⟩ := Z
              go_upto_region 11 with fail
              go_cut [64] (fun s wx => s = .bool (!P j x) ∧ Ext w6 wx)
              case first =>
                have d0 := cell_regrown k0
                have d1 := cell_regrown n1
                have d2 := cell_regrown n2
                have d3 := cell_regrown n3
                have d4 := cell_regrown n4
                have d5 := cell_regrown n5
                have d6 := cell_regrown n6
                refine rx_open [(true, 0, some 48, 4), (true, 1, some 49, 281474976710656), (true, 0, some 50, 2), (true, 6, some 51, 1688849860263936), (true, 8, some 52, 2251799813685248), (true, 0, some 53, 4), (true, 32, some 54, 9007199254740992), (true, 0, some 55, 256), (true, 192, some 56, 54043195528445952), (true, 256, some 57, 72057594037927936), (true, 0, some 58, 4), (true, 1024, some 59, 288230376151711744), (true, 0, some 60, 2048), (true, 6144, some 61, 1729382256910270464), (true, 8192, some 62, 2305843009213693952), (false, 16912, some 63, 4760304806130614272), (true, 32768, some 64, 9223372036854775808)] 17 17 mixd rfl (by kernel_rfl) (by kernel_rfl) (by kernel_rfl) ?_
                refine rx_run (run := [0, 1, 2, 3, 4, 5, 6, 7, 8, 9, 10, 11, 12, 13, 14]) (k := 2) (m' := 32767) rfl (by kernel_rfl) (by kernel_rfl) (by kernel_rfl) (fm_cons rfl <| fm_cons rfl <| fm_cons rfl <| fm_cons rfl <| fm_cons rfl <| fm_cons rfl <| fm_cons rfl <| fm_cons rfl <| fm_cons rfl <| fm_cons rfl <| fm_cons rfl <| fm_cons rfl <| fm_cons rfl <| fm_cons rfl <| fm_cons rfl <| List.filterMap_nil) (by repeat first | exact Ext.refl _ | assumption | refine Ext.drew ?_ | refine Ext.alloc ?_ _ | refine Ext.setCell ?_ (by simp) | refine Ext.setCell ?_ (by simp; omega) | refine Ext.trans ?_ (by assumption)) ?_
                repeat (go_big_quiet_step ((fail)))
                refine wpQuiet_nil ?_
                refine rx_op 15 (k := 1) (m' := 65535) rfl rfl (by kernel_rfl) (by kernel_rfl) ?_
                go_wp2_with ((go_at_call 111; refine (IsBeforeAround_s _ _ _ _ _ _ _ q1 q2 q3).mono ?_; rw [← HPx.out]; rintro e w7 ⟨rfl, hb7⟩))
                refine rx_on (by repeat first | exact Ext.refl _ | assumption | refine Ext.drew ?_ | refine Ext.alloc ?_ _ | refine Ext.setCell ?_ (by simp) | refine Ext.setCell ?_ (by simp; omega) | refine Ext.trans ?_ (by assumption)) ?_
                refine rx_run (run := [16]) (k := 0) (m' := 131071) rfl (by kernel_rfl) (by kernel_rfl) (by kernel_rfl) (fm_cons rfl <| List.filterMap_nil) (by repeat first | exact Ext.refl _ | assumption | refine Ext.drew ?_ | refine Ext.alloc ?_ _ | refine Ext.setCell ?_ (by simp) | refine Ext.setCell ?_ (by simp; omega) | refine Ext.trans ?_ (by assumption)) ?_
                repeat (go_big_quiet_step ((fail)))
                refine wpQuiet_nil ?_
                refine rx_end (by kernel_rfl) ?_
                all_goals (go_wp2; go_meet; exact ⟨rfl, (by repeat first | exact Ext.refl _ | assumption | refine Ext.drew ?_ | refine Ext.alloc ?_ _ | refine Ext.setCell ?_ (by simp) | refine Ext.setCell ?_ (by simp; omega) | refine Ext.trans ?_ (by assumption))⟩)
              case rest =>
                obtain ⟨rfl, hb⟩ := hcut
                obtain ⟨w7, rfl⟩ : ∃ x : World, x = wc := ⟨_, rfl⟩
                have hx0 := hx0.trans hb
                have hxj := hxj.trans hb
                have k0 := hb.lit k0
                have k1 := hb.lit k1
                have c1 := hb.lit c1
                have hv := hv.ext hb
                clear hb
                obtain ⟨e1, e2⟩ := hv.cel (j := a + 1) (by rw [mid_len ha]; omega)
                by_cases hP : P j x = true
                · rw [hP]
                  have hset := hv.set_ (by rw [mid_len ha]) (a + 1) (x : Int)
                  rw [Hsh.out] at hset
                  have Hset := Lib.hid hset
                  have Hp2 : Hid (insPos P j l l.length = insPos P j l a) := Lib.hid (by rw [Hpos.out, Hps.out, if_pos hP])
                  clear hset hv
                  go_wp2
                  go_roundw
                  case rel => exact ⟨a, x, by omega, by first | rfl | go_num, Hset.out, Hp2.out, hxj.setCell (by simpa using hgB)⟩
                  case measure => first | (simp [intOf]; done) | (simp [intOf]; omega)
                · have hP' := eq_false_of_ne_true hP
                  have Hpos : Hid (insPos P j l l.length = a + 1) := Lib.hid (by rw [Hpos.out, Hps.out, if_neg hP])
                  rw [hP']
                  have hset := hv.set_ (by rw [mid_len ha]) (a + 1) (j : Int)
                  rw [mid_set ha, mid_ins Hpos.out] at hset
                  have Hset := Lib.hid hset
                  clear hset hv
                  go_wp2
                  go_roundw
                  case rel => exact ⟨j + 1, by omega, by go_num, .of (by rw [Hs.out]; exact Hset.out), hxj.setCell (by simpa using hgB)⟩
                  case measure => first | (simp [intOf]; done) | (simp [intOf]; omega)
      · have hs : arnN ns ls k (j + 1) = arnN ns ls k j := by
          show (if (dEnds ls j).1 = (k : Int) then _ else _) = _
          rw [if_neg (by rw [hft]; simp; omega)]
        have Hs := Lib.hid hs
        have hfk' : ((f : Int) != (k : Int)) = true := by simp; omega
        clear hs hft
        go_wp2
        go_roundw
        case rel => exact ⟨j + 1, by omega, by go_num, by rw [Hs.out]; exact hv, hxr⟩
        case measure => first | (simp [intOf]; done) | (simp [intOf]; omega)
    · obtain rfl : j = 2 * ls.length := by omega
      go_wp2
      go_ret
      exact ⟨_, rfl, by rw [HV.out]; exact hv.own (by omega), hx0⟩
end Go.Proofs.Ytpainmnekgnpeaa
