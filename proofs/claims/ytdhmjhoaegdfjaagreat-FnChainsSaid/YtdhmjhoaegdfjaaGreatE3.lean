import Derived.Test.YtdhmjhoaegdfjaaGreatE2
namespace Go.Proofs.YtdhmjhoaegdfjaaGreat
open Go.RowKit Go.Sort Go.BigFrame
set_option maxRecDepth 100000 in
set_option maxHeartbeats 8000000 in
theorem FreeFace_i (A B : Option Addr) (c d : Nat) (ns ls : List P2) (X : Option Addr) (xc : Nat) (xs : List Int) (f n : Int) (w : World) (h : Wn w A c B d ns ls) (hX : In w w.heap.size X xs) (hxl : xs.length ≤ 2000000) :
    Calls Tryz.prog 22 #[.agg #[.slice A ns.length c, .slice B ls.length d], .slice X xs.length xc, .int .i64 f, .int .i64 n] w fun e w' => ∃ v, e = .returned (.tuple #[v, .bool (vFreeFace ns ls xs f n).2]) ∧ OwI w' w.heap.size v (vFreeFace ns ls xs f n).1 ∧ Ext w w' := by
  have HV : Hid (vFreeFace ns ls xs f n = if vAreProper ns ls xs = true ∧ wi f 0 (xs.length - 1) = true ∧ wi n 2 6 = true then ffV ns ls xs f.toNat n.toNat (fstP (ff1 ns ls xs f.toNat) n.toNat) (fstP (ff2 ns ls xs f.toNat n.toNat) (n.toNat * n.toNat)) else (xs, false)) := Lib.hid rfl
  by_cases hp : vAreProper ns ls xs = true
  · by_cases hq : wi f 0 (xs.length - 1) = true
    · by_cases hr : wi n 2 6 = true
      · rw [if_pos ⟨hp, hq, hr⟩] at HV
        obtain ⟨hw, hlen⟩ := proper_ok hp
        have hFl := vFaces_len ns ls
        have HWW := Lib.hid hw
        have HLL := Lib.hid hlen
        have HPR := Lib.hid hp
        obtain ⟨q1, q2⟩ := wi_iff.1 hq
        obtain ⟨k, rfl⟩ := Int.eq_ofNat_of_zero_le q1
        have hk : k < xs.length := by omega
        obtain ⟨q3, q4⟩ := wi_iff.1 hr
        obtain ⟨m, rfl⟩ := Int.eq_ofNat_of_zero_le (show 0 ≤ n by omega)
        have hm2 : 2 ≤ m := by omega
        have hm6 : m ≤ 6 := by omega
        rw [Int.toNat_natCast, Int.toNat_natCast] at HV
        have hx40 : xs.length ≤ 40 := by omega
        have hki : (k : Int) < xs.length := by omega
        clear hw hlen q1 q2 q3 q4
        go_enter Tryz.func22, Tryz.ntmps22
        go_wp2_with fail
        have k0 : (w.alloc (.cells #[.slice A ns.length c, .slice B ls.length d] 27)).cell? ⟨w.heap.size, 0, none⟩ = some (.slice A ns.length c) := by go_simp
        have k1 : (w.alloc (.cells #[.slice A ns.length c, .slice B ls.length d] 27)).cell? ⟨w.heap.size, 1, none⟩ = some (.slice B ls.length d) := by go_simp
        have hx : Ext w (w.alloc (.cells #[.slice A ns.length c, .slice B ls.length d] 27)) := (by repeat first | exact Ext.refl _ | assumption | refine Ext.drew ?_ | refine Ext.alloc ?_ _ | refine Ext.setCell ?_ (by simp) | refine Ext.setCell ?_ (by simp; omega) | refine Ext.trans ?_ (by assumption))
        have hsz1 : w.heap.size + 1 = (w.alloc (.cells #[.slice A ns.length c, .slice B ls.length d] 27)).heap.size := by simp
        generalize (w.alloc (.cells #[.slice A ns.length c, .slice B ls.length d] 27)) = w0 at *
        (try rw [hsz1])
        have hs0 := hx.size
        refine (copyInts_c X xc xs _ hxl (hX.ext hx)).mono ?_
        rintro e w1 ⟨vo, rfl, ho, hb⟩
        have ho := ho.more hs0
        have k0 := hb.lit k0
        have k1 := hb.lit k1
        have hx := hx.trans hb
        clear hb
        go_wp2_with fail
        refine (AreProper_i _ _ _ _ ns ls X xc xs _ (h.ext hx) (hX.ext hx) hxl).mono ?_
        rintro e w2 ⟨rfl, hb⟩
        have ho := ho.ext hb
        have k0 := hb.lit k0
        have k1 := hb.lit k1
        have hx := hx.trans hb
        clear hb
        rw [hp]
        go_wp2_with fail
        refine (within_c _ _ _ _).mono ?_
        rintro e w3 ⟨rfl, rfl⟩
        rw [hq]
        go_wp2_with fail
        refine (within_c _ _ _ _).mono ?_
        rintro e w3 ⟨rfl, rfl⟩
        rw [hr]
        clear hp hq hr
        skip
        have HF1 : Hid (∀ x : Nat, ff1 ns ls xs k x = (((x : Int) != gi xs (k : Nat)) && !(fstP (hasC (nbN ns ls k) xs (x : Int)) xs.length).isSome)) := Lib.hid (fun _ => rfl)
        have HF2 : Hid (∀ a c : Nat, c < m → ff2 ns ls xs k m (a * m + c) = (!((a : Int) == (c : Int)) && (!((a : Int) == gi xs (k : Nat)) && (!((c : Int) == gi xs (k : Nat)) && !(fstP (hasC (nbN ns ls k) (ffT ns ls xs k (a : Int) (c : Int)) (a : Int)) xs.length).isSome)))) := Lib.hid (fun a c hc => ff2_at hc)
        have HBS : Hid (fstP (ff1 ns ls xs k) m = none → ∀ x : Nat, x < m → (x : Int) ≠ gi xs (k : Nat) → (fstP (hasC (nbN ns ls k) xs (x : Int)) xs.length).isSome = true) := Lib.hid (fun h x hx hne => ff_beside h hx hne)
        have HSW : Hid (∀ x y : Int, wi y 0 5 = true → x ≠ y → (fstP (hasC (nbN ns ls k) xs x) xs.length).isSome = true → vSwapChain ns ls xs (ffG ns ls xs k x : Nat) y = (ffT ns ls xs k x y, true)) := Lib.hid (fun x y h1 h2 h3 => swap_val HPR.out h1 h2 h3)
        have HVV : Hid (∀ o1 o2, ffV ns ls xs k m o1 o2 = match o1 with
          | some x => (xs.set k (x : Int), true)
          | none => match o2 with
            | some p => ((ffT ns ls xs k ((p / m : Nat) : Int) ((p % m : Nat) : Int)).set k ((p / m : Nat) : Int), true)
            | none => (xs, false)) := Lib.hid (fun _ _ => rfl)
        have HDV : Hid (∀ a c : Nat, c < m → (a * m + c) / m = a ∧ (a * m + c) % m = c) := Lib.hid (fun a c hc => ⟨by rw [Nat.mul_comm, Nat.mul_add_div (by omega), Nat.div_eq_of_lt hc, Nat.add_zero], by rw [Nat.mul_comm, Nat.mul_add_mod, Nat.mod_eq_of_lt hc]⟩)
        obtain ⟨go, co, rfl, -, hgo, -, -, -⟩ := ho.gi_ (j := 0) (by omega)
        have hX2 := hX
        obtain ⟨b, off, rfl, hbb, x0⟩ := hX2.gi_ hk
        clear hX2 hbb
        generalize ff1 ns ls xs k = P1 at *
        generalize ff2 ns ls xs k m = P2 at *
        go_wp2_with fail
        go_loopw [11] (fun x wr => ∃ a : Nat, a ≤ m ∧ x = .int .i64 a ∧ Hid (fstP P1 a = none) ∧ Ext w2 wr) (fun x _ => m - (intOf x).toNat)
        case atStart => exact ⟨0, by omega, rfl, Lib.hid rfl, Ext.refl _⟩
        case round =>
          obtain ⟨a, ha, rfl, HO, hx2⟩ := hrel
          obtain ⟨w4, rfl⟩ : ∃ x : World, x = wr := ⟨_, rfl⟩
          have hx02 := hx
          have hx := hx.trans hx2
          have j0 := hx2.lit k0
          have j1 := hx2.lit k1
          have x1 := hx.lit x0
          by_cases ham : a < m
          · have hami : (a : Int) < m := by omega
            have HNO := fun h => Lib.hid (fstP_no HO.out h)
            have HAT := fun h => Lib.hid (fstP_at HO.out h ham)
            by_cases hxc : (a : Int) = gi xs (k : Nat)
            · have q : ((a : Int) != gi xs (k : Nat)) = false := by simp [hxc]
              have Hs := HNO (by rw [HF1.out, q]; rfl)
              clear hxc HNO HAT
              generalize gi xs (k : Nat) = z at *
              go_wp2
              go_roundw
              case rel => exact ⟨a + 1, by omega, by go_num, Hs, hx2⟩
              case measure => first | (simp [intOf]; done) | (simp [intOf]; omega)
            · have q : ((a : Int) != gi xs (k : Nat)) = true := by simp [hxc]
              go_wp2_with fail
              refine (hasBeside_i _ _ _ _ ns ls _ xc xs xs.length k (a : Int) _ (h.ext hx) (hX.ext hx) HWW.out HLL.out rfl hk).mono ?_
              rintro e w5 ⟨rfl, hb⟩
              have hx5 := hx2.trans hb
              cases hh : (fstP (hasC (nbN ns ls k) xs (a : Int)) xs.length).isSome with
              | true =>
                have Hs := HNO (by rw [HF1.out, q, hh]; rfl)
                clear hxc HNO HAT hh
                generalize gi xs (k : Nat) = z at *
                go_wp2
                go_roundw
                case rel => exact ⟨a + 1, by omega, by go_num, Hs, hx5⟩
                case measure => first | (simp [intOf]; done) | (simp [intOf]; omega)
              | false =>
                have Hs := HAT (by rw [HF1.out, q, hh]; rfl)
                have ho5 := ho.ext hx5
                obtain ⟨s1, s2⟩ := ho5.cel hk
                have Hset := Lib.hid (ho5.set_ rfl k (a : Int))
                clear hxc HNO HAT hh ho5
                generalize gi xs (k : Nat) = z at *
                go_wp2
                go_ret2
                exact ⟨_, ret_vb (by rw [HV.out, Hs.out, HVV.out]), by rw [HV.out, Hs.out, HVV.out]; exact Hset.out, Ext.setCell (p := ⟨go, k, none⟩) (hx.trans hb) hgo⟩
          · obtain rfl : a = m := by omega
            have HB := Lib.hid (HBS.out HO.out)
            go_wp2_with fail
            go_loopw [12, 13, 15, 16, 17] (fun x _ _ _ _ wr => ∃ a' : Nat, a' ≤ a ∧ x = .int .i64 a' ∧ Hid (fstP P2 (a' * a) = none) ∧ Ext w2 wr) (fun x _ _ _ _ _ => a - (intOf x).toNat)
            case atStart => exact ⟨0, by omega, rfl, Lib.hid (by rw [Nat.zero_mul]; rfl), hx2⟩
            case round =>
              clear hx2 hx j0 j1 x1
              obtain ⟨p, hp, rfl, HO2, hx2⟩ := hrel
              obtain ⟨w5, rfl⟩ : ∃ x : World, x = wr := ⟨_, rfl⟩
              by_cases hpa : p < a
              · have hpi : (p : Int) < a := by omega
                go_wp2_with fail
                go_loopw [13, 15, 16, 17] (fun y _ _ _ wr => ∃ q : Nat, q ≤ a ∧ y = .int .i64 q ∧ Hid (fstP P2 (p * a + q) = none) ∧ Ext w2 wr) (fun y _ _ _ _ => a - (intOf y).toNat)
                case atStart => exact ⟨0, by omega, rfl, HO2, hx2⟩
                case round =>
                  clear hx2
                  obtain ⟨q, hq, rfl, HO3, hx2⟩ := hrel
                  obtain ⟨w6, rfl⟩ : ∃ x : World, x = wr := ⟨_, rfl⟩
                  have hx := hx02.trans hx2
                  have j0 := hx2.lit k0
                  have j1 := hx2.lit k1
                  have x1 := hx.lit x0
                  by_cases hqa : q < a
                  · have hqi : (q : Int) < a := by omega
                    have HNO := fun h => Lib.hid (fstP_no HO3.out h)
                    have hpq2 : p * a + q < a * a := by
                      have h1 : (p + 1) * a ≤ a * a := Nat.mul_le_mul_right _ hpa
                      rw [Nat.succ_mul] at h1
                      omega
                    have HAT := fun h => Lib.hid (fstP_at HO3.out h hpq2)
                    have HFF := Lib.hid (HF2.out p q hqa)
                    clear hpq2
                    by_cases e1 : (p : Int) = (q : Int)
                    · have q1 : ((p : Int) == (q : Int)) = true := by simp; omega
                      have Hs := HNO (by rw [HFF.out, q1]; rfl)
                      generalize gi xs (k : Nat) = z at *
                      clear e1
                      clear HNO HAT
                      go_wp2
                      go_roundw
                      case rel => exact ⟨q + 1, by omega, by go_num, Lib.hid Hs.out, hx2⟩
                      case measure => first | (simp [intOf]; done) | (simp [intOf]; omega)
                    · have q1 : ((p : Int) == (q : Int)) = false := by simp; omega
                      by_cases e2 : (p : Int) = gi xs (k : Nat)
                      · have q2 : ((p : Int) == gi xs (k : Nat)) = true := by simp [e2]
                        have Hs := HNO (by rw [HFF.out, q1, q2]; rfl)
                        clear e1 e2
                        generalize gi xs (k : Nat) = z at *
                        clear HNO HAT
                        go_wp2
                        go_roundw
                        case rel => exact ⟨q + 1, by omega, by go_num, Lib.hid Hs.out, hx2⟩
                        case measure => first | (simp [intOf]; done) | (simp [intOf]; omega)
                      · have q2 : ((p : Int) == gi xs (k : Nat)) = false := by simp [e2]
                        by_cases e3 : (q : Int) = gi xs (k : Nat)
                        · have q3 : ((q : Int) == gi xs (k : Nat)) = true := by simp [e3]
                          have Hs := HNO (by rw [HFF.out, q1, q2, q3]; rfl)
                          clear e1 e2 e3
                          generalize gi xs (k : Nat) = z at *
                          clear HNO HAT
                          go_wp2
                          go_roundw
                          case rel => exact ⟨q + 1, by omega, by go_num, Lib.hid Hs.out, hx2⟩
                          case measure => first | (simp [intOf]; done) | (simp [intOf]; omega)
                        · have q3 : ((q : Int) == gi xs (k : Nat)) = false := by simp [e3]
                          have hsome := HB.out p hpa e2
                          obtain ⟨g1, g2, g3⟩ := ffG_is hsome
                          have HSV := Lib.hid (HSW.out (p : Int) (q : Int) (wi_iff.2 ⟨by omega, by omega⟩) e1 hsome)
                          have HG1 := Lib.hid g1
                          have HFB := Lib.hid (fndL_bits (nbN ns ls k) xs (p : Int) xs.length)
                          have HGI : Hid (∀ j : Nat, j < (bitsL (nbN ns ls k) xs.length).length → ∃ a : Nat, gi (bitsL (nbN ns ls k) xs.length) j = a ∧ a < xs.length) := Lib.hid (fun j hj => bitsL_gi hj)
                          have HE : Hid (vBesideOf ns ls k = bitsL (nbN ns ls k) xs.length) := Lib.hid (by rw [HLL.out]; exact (beside_bits HWW.out (by rw [← HLL.out]; exact hk)).symm)
                          have hTl := ffT_len ns ls xs k (p : Int) (q : Int)
                          have HTL := Lib.hid hTl
                          have hln := bitsL_len (nbN ns ls k) xs.length
                          rw [q1, q2, q3] at HFF
                          clear g1 hTl e1 e2 e3 hsome
                          go_wp2_with fail
                          refine (BesideOf_i _ _ _ _ ns ls k _ (h.ext hx)).mono ?_
                          rintro e w7 ⟨v, rfl, hl, hb⟩
                          rw [HE.out] at hl
                          have j0 := hb.lit j0
                          have j1 := hb.lit j1
                          have hx2 := hx2.trans hb
                          have hx := hx.trans hb
                          clear hb
                          generalize bitsL (nbN ns ls k) xs.length = l at *
                          obtain ⟨Al, cl, rfl, -, -, hin⟩ := hl.shape
                          clear hl
                          go_wp2_with fail
                          go_loop [15, 16, 17, 95] (fun _ _ _ i => ∃ j : Nat, j ≤ l.length ∧ i = .int .i64 j ∧ Hid (fndL l xs (p : Int) j = none)) (fun _ _ _ i => l.length - (intOf i).toNat)
                          case atStart => exact ⟨0, by omega, rfl, Lib.hid rfl⟩
                          case round =>
                            obtain ⟨j, hj, rfl, HOJ⟩ := hrel
                            by_cases hjl : j < l.length
                            · have hji : (j : Int) < l.length := by omega
                              obtain ⟨t, et, ht⟩ := HGI.out j hjl
                              obtain ⟨bl, ol, rfl, -, y1⟩ := hin.gi_ hjl
                              rw [et] at y1
                              obtain ⟨b', off', e', -, y2⟩ := (hX.ext hx).gi_ (k := t) ht
                              obtain ⟨rfl, rfl⟩ : b' = b ∧ off' = off := by simpa [eq_comm] using e'
                              have hti : (t : Int) < xs.length := by omega
                              clear e'
                              by_cases hy : gi xs (t : Nat) = (p : Int)
                              · have q4 : (gi xs (t : Nat) != (p : Int)) = false := by simp [hy]
                                have hfn := fndL_at HOJ.out (by rw [et]; exact hy) hjl
                                have htg : t = ffG ns ls xs k (p : Int) := by
                                  have h2 := HFB.out
                                  rw [hfn, et, HG1.out] at h2
                                  have h3 : (t : Int) = (ffG ns ls xs k (p : Int) : Nat) := Option.some.inj h2
                                  omega
                                subst htg
                                clear hfn hy HOJ HFB HGI
                                generalize gi xs (ffG ns ls xs k (p : Int) : Nat) = u at *
                                go_wp2_with fail
                                refine (SwapChain_i _ _ _ _ ns ls _ xc xs _ (q : Int) _ (h.ext hx) (hX.ext hx) hxl).mono ?_
                                rw [HSV.out]
                                rintro e w8 ⟨v8, rfl, h8, hb⟩
                                have h8 : OwI w8 w7.heap.size v8 (ffT ns ls xs k (p : Int) (q : Int)) := h8
                                obtain ⟨g8, c8, rfl, -, hg8, -, -, -⟩ := h8.gi_ (j := 0) (by rw [HTL.out]; omega)
                                rw [HTL.out]
                                have j0 := hb.lit j0
                                have j1 := hb.lit j1
                                have hx2 := hx2.trans hb
                                have hs7 := hx.size
                                have hx := hx.trans hb
                                rw [HTL.out] at h8
                                have HT8 := Lib.hid h8.in'
                                clear hb y1 y2
                                go_wp2_with fail
                                refine (hasBeside_i _ _ _ _ ns ls _ c8 (ffT ns ls xs k (p : Int) (q : Int)) xs.length k (p : Int) _ (h.ext hx) HT8.out HWW.out HLL.out HTL.out hk).mono ?_
                                rintro e w9 ⟨rfl, hb⟩
                                have hx2 := hx2.trans hb
                                cases hh : (fstP (hasC (nbN ns ls k) (ffT ns ls xs k (p : Int) (q : Int)) (p : Int)) xs.length).isSome with
                                | true =>
                                  have Hs := HNO (by rw [HFF.out, hh]; rfl)
                                  clear hh HT8 h8
                                  clear HNO HAT
                                  go_wp2
                                  go_roundw
                                  case rel => exact ⟨q + 1, by omega, by go_num, Lib.hid Hs.out, hx2⟩
                                  case measure => first | (simp [intOf]; done) | (simp [intOf]; omega)
                                | false =>
                                  have Hs := HAT (by rw [HFF.out, hh]; rfl)
                                  have ho9 := h8.ext hb
                                  obtain ⟨s1, s2⟩ := ho9.cel (j := k) (by rw [HTL.out]; exact hk)
                                  have Hset := Lib.hid (ho9.set_ HTL.out.symm k (p : Int))
                                  obtain ⟨d1, d2⟩ := HDV.out p q hqa
                                  have HE1 := Lib.hid HO.out
                                  have HD : Hid (ffV ns ls xs k a none (some (p * a + q)) = ((ffT ns ls xs k (p : Int) (q : Int)).set k (p : Int), true)) := Lib.hid (by rw [HVV.out]; show ((ffT ns ls xs k (((p * a + q) / a : Nat) : Int) (((p * a + q) % a : Nat) : Int)).set k (((p * a + q) / a : Nat) : Int), true) = _; rw [d1, d2])
                                  have hx9 := Ext.setCell (p := ⟨g8, k, none⟩) (v := .int .i64 (p : Int)) (hx.trans hb) (by show w.heap.size ≤ g8; omega)
                                  clear hh HT8 h8 ho9 HNO HAT d1 d2
                                  generalize gi (ffT ns ls xs k (p : Int) (q : Int)) (k : Nat) = u8 at *
                                  go_wp2
                                  go_ret2
                                  exact ⟨_, ret_vb (by rw [HV.out, HE1.out, Hs.out, HD.out]), by rw [HV.out, HE1.out, Hs.out, HD.out]; exact Hset.out.more (by omega), hx9⟩
                              · have q4 : (gi xs (t : Nat) != (p : Int)) = true := by simp [hy]
                                have Hs := Lib.hid (fndL_none HOJ.out (by rw [et]; exact hy))
                                clear hy
                                generalize gi xs (t : Nat) = u at *
                                go_wp2
                                go_round
                                case rel => exact ⟨j + 1, by omega, by go_num, Hs⟩
                                case measure => simp [intOf]; omega
                            · obtain rfl : j = l.length := by omega
                              exfalso
                              have h2 := HFB.out
                              rw [HOJ.out, HG1.out] at h2
                              cases h2
                  · obtain rfl : q = a := by omega
                    have Hs : Hid (fstP P2 ((p + 1) * q) = none) := Lib.hid (by rw [Nat.succ_mul]; exact HO3.out)
                    go_wp2
                    go_roundw
                    case rel => exact ⟨p + 1, by omega, by go_num, Hs, hx2⟩
                    case measure => first | (simp [intOf]; done) | (simp [intOf]; omega)
              · obtain rfl : p = a := by omega
                have HE1 := Lib.hid HO.out
                have ho9 := Lib.hid (ho.ext hx2)
                have hx9 := hx02.trans hx2
                go_wp2
                go_ret2
                exact ⟨_, ret_vb (by rw [HV.out, HE1.out, HO2.out, HVV.out]), by rw [HV.out, HE1.out, HO2.out, HVV.out]; exact ho9.out, hx9⟩
      · rw [if_neg (fun e => hr e.2.2)] at HV
        have hr' := eq_false_of_ne_true hr
        go_enter Tryz.func22, Tryz.ntmps22
        go_wp2_with fail
        have k0 : (w.alloc (.cells #[.slice A ns.length c, .slice B ls.length d] 27)).cell? ⟨w.heap.size, 0, none⟩ = some (.slice A ns.length c) := by go_simp
        have k1 : (w.alloc (.cells #[.slice A ns.length c, .slice B ls.length d] 27)).cell? ⟨w.heap.size, 1, none⟩ = some (.slice B ls.length d) := by go_simp
        have hx : Ext w (w.alloc (.cells #[.slice A ns.length c, .slice B ls.length d] 27)) := (by repeat first | exact Ext.refl _ | assumption | refine Ext.drew ?_ | refine Ext.alloc ?_ _ | refine Ext.setCell ?_ (by simp) | refine Ext.setCell ?_ (by simp; omega) | refine Ext.trans ?_ (by assumption))
        have hsz1 : w.heap.size + 1 = (w.alloc (.cells #[.slice A ns.length c, .slice B ls.length d] 27)).heap.size := by simp
        generalize (w.alloc (.cells #[.slice A ns.length c, .slice B ls.length d] 27)) = w0 at *
        (try rw [hsz1])
        have hs0 := hx.size
        refine (copyInts_c X xc xs _ hxl (hX.ext hx)).mono ?_
        rintro e w1 ⟨vo, rfl, ho, hb⟩
        have ho := ho.more hs0
        have k0 := hb.lit k0
        have k1 := hb.lit k1
        have hx := hx.trans hb
        clear hb
        go_wp2_with fail
        refine (AreProper_i _ _ _ _ ns ls X xc xs _ (h.ext hx) (hX.ext hx) hxl).mono ?_
        rintro e w2 ⟨rfl, hb⟩
        have ho := ho.ext hb
        have k0 := hb.lit k0
        have k1 := hb.lit k1
        have hx := hx.trans hb
        clear hb
        rw [hp]
        go_wp2_with fail
        refine (within_c _ _ _ _).mono ?_
        rintro e w3 ⟨rfl, rfl⟩
        rw [hq]
        go_wp2_with fail
        refine (within_c _ _ _ _).mono ?_
        rintro e w3 ⟨rfl, rfl⟩
        rw [hr']
        go_wp2
        go_ret2
        exact ⟨_, ret_vb (by rw [HV.out]), by rw [HV.out]; exact ho, hx⟩
    · rw [if_neg (fun e => hq e.2.1)] at HV
      have hq' := eq_false_of_ne_true hq
      go_enter Tryz.func22, Tryz.ntmps22
      go_wp2_with fail
      have k0 : (w.alloc (.cells #[.slice A ns.length c, .slice B ls.length d] 27)).cell? ⟨w.heap.size, 0, none⟩ = some (.slice A ns.length c) := by go_simp
      have k1 : (w.alloc (.cells #[.slice A ns.length c, .slice B ls.length d] 27)).cell? ⟨w.heap.size, 1, none⟩ = some (.slice B ls.length d) := by go_simp
      have hx : Ext w (w.alloc (.cells #[.slice A ns.length c, .slice B ls.length d] 27)) := (by repeat first | exact Ext.refl _ | assumption | refine Ext.drew ?_ | refine Ext.alloc ?_ _ | refine Ext.setCell ?_ (by simp) | refine Ext.setCell ?_ (by simp; omega) | refine Ext.trans ?_ (by assumption))
      have hsz1 : w.heap.size + 1 = (w.alloc (.cells #[.slice A ns.length c, .slice B ls.length d] 27)).heap.size := by simp
      generalize (w.alloc (.cells #[.slice A ns.length c, .slice B ls.length d] 27)) = w0 at *
      (try rw [hsz1])
      have hs0 := hx.size
      refine (copyInts_c X xc xs _ hxl (hX.ext hx)).mono ?_
      rintro e w1 ⟨vo, rfl, ho, hb⟩
      have ho := ho.more hs0
      have k0 := hb.lit k0
      have k1 := hb.lit k1
      have hx := hx.trans hb
      clear hb
      go_wp2_with fail
      refine (AreProper_i _ _ _ _ ns ls X xc xs _ (h.ext hx) (hX.ext hx) hxl).mono ?_
      rintro e w2 ⟨rfl, hb⟩
      have ho := ho.ext hb
      have k0 := hb.lit k0
      have k1 := hb.lit k1
      have hx := hx.trans hb
      clear hb
      rw [hp]
      go_wp2_with fail
      refine (within_c _ _ _ _).mono ?_
      rintro e w3 ⟨rfl, rfl⟩
      rw [hq']
      go_wp2
      go_ret2
      exact ⟨_, ret_vb (by rw [HV.out]), by rw [HV.out]; exact ho, hx⟩
  · rw [if_neg (fun e => hp e.1)] at HV
    have hp' := eq_false_of_ne_true hp
    go_enter Tryz.func22, Tryz.ntmps22
    go_wp2_with fail
    have k0 : (w.alloc (.cells #[.slice A ns.length c, .slice B ls.length d] 27)).cell? ⟨w.heap.size, 0, none⟩ = some (.slice A ns.length c) := by go_simp
    have k1 : (w.alloc (.cells #[.slice A ns.length c, .slice B ls.length d] 27)).cell? ⟨w.heap.size, 1, none⟩ = some (.slice B ls.length d) := by go_simp
    have hx : Ext w (w.alloc (.cells #[.slice A ns.length c, .slice B ls.length d] 27)) := (by repeat first | exact Ext.refl _ | assumption | refine Ext.drew ?_ | refine Ext.alloc ?_ _ | refine Ext.setCell ?_ (by simp) | refine Ext.setCell ?_ (by simp; omega) | refine Ext.trans ?_ (by assumption))
    have hsz1 : w.heap.size + 1 = (w.alloc (.cells #[.slice A ns.length c, .slice B ls.length d] 27)).heap.size := by simp
    generalize (w.alloc (.cells #[.slice A ns.length c, .slice B ls.length d] 27)) = w0 at *
    (try rw [hsz1])
    have hs0 := hx.size
    refine (copyInts_c X xc xs _ hxl (hX.ext hx)).mono ?_
    rintro e w1 ⟨vo, rfl, ho, hb⟩
    have ho := ho.more hs0
    have k0 := hb.lit k0
    have k1 := hb.lit k1
    have hx := hx.trans hb
    clear hb
    go_wp2_with fail
    refine (AreProper_i _ _ _ _ ns ls X xc xs _ (h.ext hx) (hX.ext hx) hxl).mono ?_
    rintro e w2 ⟨rfl, hb⟩
    have ho := ho.ext hb
    have k0 := hb.lit k0
    have k1 := hb.lit k1
    have hx := hx.trans hb
    clear hb
    rw [hp']
    go_wp2
    go_ret2
    exact ⟨_, ret_vb (by rw [HV.out]), by rw [HV.out]; exact ho, hx⟩
end Go.Proofs.YtdhmjhoaegdfjaaGreat
