import Derived.Test.YtimgbllpbadhcaaGreatE2
namespace Go.Proofs.YtimgbllpbadhcaaGreat
open Go.RowKit Go.Sort Go.BigFrame
set_option maxRecDepth 100000 in
set_option maxHeartbeats 8000000 in
theorem FreeFace_s (A B : Option Addr) (c d : Nat) (ns ls : List P2) (X : Option Addr) (xc : Nat) (xs : List Int) (f n : Int) (w : World) (h : Wn w A c B d ns ls) (hX : In w w.heap.size X xs) (hxl : xs.length ≤ 2000000) :
    Calls Tryz.prog 5 #[.agg #[.slice A ns.length c, .slice B ls.length d], .slice X xs.length xc, .int .i64 f, .int .i64 n] w fun e w' => ∃ v, e = .returned (.tuple #[v, .bool (vFreeFace ns ls xs f n).2]) ∧ OwI w' w.heap.size v (vFreeFace ns ls xs f n).1 ∧ Ext w w' := by
  have HV : Hid (vFreeFace ns ls xs f n = if vAreProper ns ls xs = true ∧ wi f 0 (xs.length - 1) = true ∧ wi n 2 6 = true then ffV ns ls xs f.toNat n.toNat (fstP (ff1 ns ls xs f.toNat) n.toNat) (fstP (ff2 ns ls xs f.toNat n.toNat) (n.toNat * n.toNat)) else (xs, false)) := Lib.hid rfl
  by_cases hp : vAreProper ns ls xs = true
  · by_cases hq : wi f 0 (xs.length - 1) = true
    · by_cases hr : wi n 2 6 = true
      · rw [if_pos ⟨hp, hq, hr⟩] at HV
        obtain ⟨hw, hlen⟩ := proper_ok hp
        have hFl := vFaces_len ns ls
        have HWW := Lib.hid hw
        have HLL := Lib.hid hlen
        have HPR := Lib.hid hp
        obtain ⟨q1, q2⟩ := wi_iff.1 hq
        obtain ⟨k, rfl⟩ := Int.eq_ofNat_of_zero_le q1
        have hk : k < xs.length := by omega
        obtain ⟨q3, q4⟩ := wi_iff.1 hr
        obtain ⟨m, rfl⟩ := Int.eq_ofNat_of_zero_le (show 0 ≤ n by omega)
        have hm2 : 2 ≤ m := by omega
        have hm6 : m ≤ 6 := by omega
        rw [Int.toNat_natCast, Int.toNat_natCast] at HV
        have hx40 : xs.length ≤ 40 := by omega
        have hki : (k : Int) < xs.length := by omega
        clear hw hlen q1 q2 q3 q4
        go_enter Tryz.func5, Tryz.ntmps5
        go_upto_region 1 with fail
        have k0 : (w.alloc (.cells #[.slice A ns.length c, .slice B ls.length d] 33)).cell? ⟨w.heap.size, 0, none⟩ = some (.slice A ns.length c) := by go_simp
        have k1 : (w.alloc (.cells #[.slice A ns.length c, .slice B ls.length d] 33)).cell? ⟨w.heap.size, 1, none⟩ = some (.slice B ls.length d) := by go_simp
        have hx : Ext w (w.alloc (.cells #[.slice A ns.length c, .slice B ls.length d] 33)) := (by repeat first | exact Ext.refl _ | assumption | refine Ext.drew ?_ | refine Ext.alloc ?_ _ | refine Ext.setCell ?_ (by simp) | refine Ext.setCell ?_ (by simp; omega) | refine Ext.trans ?_ (by assumption))
        have hsz1 : w.heap.size + 1 = (w.alloc (.cells #[.slice A ns.length c, .slice B ls.length d] 33)).heap.size := by simp
        generalize (w.alloc (.cells #[.slice A ns.length c, .slice B ls.length d] 33)) = w0 at *
        (try rw [hsz1])
        have hs0 := hx.size
        go_wp2_with (at_builtin; refine az_ints _ _ rfl rfl (B := w0.heap.size) rfl ((OzI.zero (B := w0.heap.size) _ (Nat.le_refl _) rfl).own (Nat.le_refl _)) ⟨_, rfl⟩ rfl rfl ((hX.ext hx).ext ((Ext.refl _).alloc _)) hxl (by simp) ?_)
        intro vo w1 ho hxa
        have hb : Ext w0 w1 := ((Ext.refl _).alloc _).trans hxa
        clear hxa
        have ho := ho.more hs0
        have k0 := hb.lit k0
        have k1 := hb.lit k1
        have hx := hx.trans hb
        clear hb
        go_wp2_with fail
        refine (AreProper_s _ _ _ _ ns ls X xc xs _ (h.ext hx) (hX.ext hx) hxl).mono ?_
        rintro e w2 ⟨rfl, hb⟩
        have ho := ho.ext hb
        have k0 := hb.lit k0
        have k1 := hb.lit k1
        have hx := hx.trans hb
        clear hb
        rw [hp]
        go_wp2_with fail
        refine (l01In_c _ _ _ _).mono ?_
        rintro e w3 ⟨rfl, rfl⟩
        rw [hq]
        go_wp2_with fail
        refine (l01In_c _ _ _ _).mono ?_
        rintro e w3 ⟨rfl, rfl⟩
        rw [hr]
        clear hp hq hr
        skip
        have HF1 : Hid (∀ x : Nat, ff1 ns ls xs k x = (((x : Int) != gi xs (k : Nat)) && !(fstP (hasC (nbN ns ls k) xs (x : Int)) xs.length).isSome)) := Lib.hid (fun _ => rfl)
        have HF2 : Hid (∀ a c : Nat, c < m → ff2 ns ls xs k m (a * m + c) = (!((a : Int) == (c : Int)) && (!((a : Int) == gi xs (k : Nat)) && (!((c : Int) == gi xs (k : Nat)) && !(fstP (hasC (nbN ns ls k) (ffT ns ls xs k (a : Int) (c : Int)) (a : Int)) xs.length).isSome)))) := Lib.hid (fun a c hc => ff2_at hc)
        have HBS : Hid (fstP (ff1 ns ls xs k) m = none → ∀ x : Nat, x < m → (x : Int) ≠ gi xs (k : Nat) → (fstP (hasC (nbN ns ls k) xs (x : Int)) xs.length).isSome = true) := Lib.hid (fun h x hx hne => ff_beside h hx hne)
        have HSW : Hid (∀ x y : Int, wi y 0 5 = true → x ≠ y → (fstP (hasC (nbN ns ls k) xs x) xs.length).isSome = true → vSwapChain ns ls xs (ffG ns ls xs k x : Nat) y = (ffT ns ls xs k x y, true)) := Lib.hid (fun x y h1 h2 h3 => swap_val HPR.out h1 h2 h3)
        have HVV : Hid (∀ o1 o2, ffV ns ls xs k m o1 o2 = match o1 with
          | some x => (xs.set k (x : Int), true)
          | none => match o2 with
            | some p => ((ffT ns ls xs k ((p / m : Nat) : Int) ((p % m : Nat) : Int)).set k ((p / m : Nat) : Int), true)
            | none => (xs, false)) := Lib.hid (fun _ _ => rfl)
        have HDV : Hid (∀ a c : Nat, c < m → (a * m + c) / m = a ∧ (a * m + c) % m = c) := Lib.hid (fun a c hc => ⟨by rw [Nat.mul_comm, Nat.mul_add_div (by omega), Nat.div_eq_of_lt hc, Nat.add_zero], by rw [Nat.mul_comm, Nat.mul_add_mod, Nat.mod_eq_of_lt hc]⟩)
        have hsy := Lib.hid (nbN_sym HWW.out)
        obtain ⟨go, co, rfl, -, hgo, -, -, -⟩ := ho.gi_ (j := 0) (by omega)
        have hX2 := hX
        obtain ⟨b, off, rfl, hbb, x0⟩ := hX2.gi_ hk
        clear hX2 hbb
        generalize ff1 ns ls xs k = P1 at *
        generalize ff2 ns ls xs k m = P2 at *
        go_wp2_with fail
        refine (l13Beside_s _ _ _ _ ns ls _ (h.ext hx) HWW.out).mono ?_
        rintro e w3 ⟨vb, rb, rfl, hM, hb⟩
        rw [← HLL.out] at hM
        obtain ⟨A4, c4, rfl⟩ := hM.shape
        have ho := ho.ext hb
        have k0 := hb.lit k0
        have k1 := hb.lit k1
        have hx := hx.trans hb
        clear hb
        clear k0 k1
        go_wp2_with fail
        go_loopw [12, 13, 14] (fun x _ _ wr => ∃ a : Nat, a ≤ m ∧ x = .int .i64 a ∧ Hid (fstP P1 a = none) ∧ Ext w3 wr) (fun x _ _ _ => m - (intOf x).toNat)
        case atStart => exact ⟨0, by omega, rfl, Lib.hid rfl, Ext.refl _⟩
        case round =>
          obtain ⟨a, ha, rfl, HO, hx2⟩ := hrel
          obtain ⟨w4, rfl⟩ : ∃ x : World, x = wr := ⟨_, rfl⟩
          have hx02 := hx
          have hx := hx.trans hx2
          by_cases ham : a < m
          · have hami : (a : Int) < m := by omega
            have HNO := fun h => Lib.hid (fstP_no HO.out h)
            have HAT := fun h => Lib.hid (fstP_at HO.out h ham)
            go_wp2_with fail
            refine (l15Has_s A4 c4 rb _ (nbN ns ls k) xs.length _ _ k (a : Int) _ xc xs _ (hM.ext hx2) (hX.ext hx) rfl hx40 hk (fun _ _ => rfl)).mono ?_
            rintro e w5 ⟨rfl, hb⟩
            have hx5 := hx2.trans hb
            have x1 := (hx.trans hb).lit x0
            by_cases hxc : (a : Int) = gi xs (k : Nat)
            · have q : ((a : Int) != gi xs (k : Nat)) = false := by simp [hxc]
              have Hs := HNO (by rw [HF1.out, q]; rfl)
              clear hxc HNO HAT
              generalize gi xs (k : Nat) = z at *
              go_wp2
              go_roundw
              case rel => exact ⟨a + 1, by omega, by go_num, Hs, hx5⟩
              case measure => first | (simp [intOf]; done) | (simp [intOf]; omega)
            · have q : ((a : Int) != gi xs (k : Nat)) = true := by simp [hxc]
              cases hh : (fstP (hasC (nbN ns ls k) xs (a : Int)) xs.length).isSome with
              | true =>
                have Hs := HNO (by rw [HF1.out, q, hh]; rfl)
                clear hxc HNO HAT hh
                generalize gi xs (k : Nat) = z at *
                go_wp2
                go_roundw
                case rel => exact ⟨a + 1, by omega, by go_num, Hs, hx5⟩
                case measure => first | (simp [intOf]; done) | (simp [intOf]; omega)
              | false =>
                have Hs := HAT (by rw [HF1.out, q, hh]; rfl)
                have ho5 := ho.ext hx5
                obtain ⟨s1, s2⟩ := ho5.cel hk
                have Hset := Lib.hid (ho5.set_ rfl k (a : Int))
                clear hxc HNO HAT hh ho5
                generalize gi xs (k : Nat) = z at *
                go_wp2
                go_ret2
                exact ⟨_, ret_vb (by rw [HV.out, Hs.out, HVV.out]), by rw [HV.out, Hs.out, HVV.out]; exact Hset.out, Ext.setCell (p := ⟨go, k, none⟩) (hx.trans hb) hgo⟩
          · obtain rfl : a = m := by omega
            have HB := Lib.hid (HBS.out HO.out)
            obtain ⟨K, hK⟩ : ∃ K : Nat, a * a = K := ⟨_, rfl⟩
            have hKi : (a : Int) * (a : Int) = (K : Int) := by rw [← hK]; push_cast; rfl
            have hK36 : K ≤ 36 := by rw [← hK]; exact Nat.mul_le_mul hm6 hm6
            have HKK := Lib.hid hK
            have ha0 : ¬ (a : Int) = 0 := by omega
            have ha1 : (1 : Int) ≤ a := by omega
            clear hK
            go_wp2_with fail
            go_loopw [15, 16, 17, 18, 19, 20, 21, 22] (fun x _ _ _ _ _ _ _ wr => ∃ u : Nat, u ≤ K ∧ x = .int .i64 u ∧ Hid (fstP P2 u = none) ∧ Ext w3 wr) (fun x _ _ _ _ _ _ _ _ => K - (intOf x).toNat)
            case atStart => exact ⟨0, by omega, rfl, Lib.hid rfl, hx2⟩
            case round =>
              clear hx2 hx
              obtain ⟨u, hu, rfl, HO3, hx2⟩ := hrel
              obtain ⟨w6, rfl⟩ : ∃ x : World, x = wr := ⟨_, rfl⟩
              have hx := hx02.trans hx2
              have x1 := hx.lit x0
              by_cases huK : u < K
              · have hui : (u : Int) < K := by omega
                obtain ⟨p, q, hpd, hqd, hpq, hpa, hqa⟩ : ∃ p q : Nat, u / a = p ∧ u % a = q ∧ u = p * a + q ∧ p < a ∧ q < a := by
                  have h1 := Nat.div_add_mod u a
                  refine ⟨u / a, u % a, rfl, rfl, ?_, ?_, Nat.mod_lt _ (by omega)⟩
                  · rw [Nat.mul_comm]; exact h1.symm
                  · exact Nat.div_lt_of_lt_mul (by rw [HKK.out]; exact huK)
                have hdv : (u : Int) / (a : Int) = (p : Int) := by rw [← hpd]; rfl
                have hmd : (u : Int) % (a : Int) = (q : Int) := by rw [← hqd]; rfl
                have hdv2 : Int.tdiv (u : Int) (a : Int) = (p : Int) := by rw [← hpd]; rfl
                have hmd2 : Int.tmod (u : Int) (a : Int) = (q : Int) := by rw [← hqd]; rfl
                have hpi : (p : Int) < a := by omega
                have hqi : (q : Int) < a := by omega
                have HPQ := Lib.hid hpq
                clear hpd hqd hpq
                have HNO := fun h => Lib.hid (fstP_no HO3.out h)
                have HAT := fun h => Lib.hid (fstP_at HO3.out h (by rw [HKK.out]; exact huK : u < a * a))
                have HFF := Lib.hid (HF2.out p q hqa)
                rw [← HPQ.out] at HFF
                by_cases e1 : (p : Int) = (q : Int)
                · have q1 : ((p : Int) == (q : Int)) = true := by simp; omega
                  have Hs := HNO (by rw [HFF.out, q1]; rfl)
                  generalize gi xs (k : Nat) = z at *
                  clear e1
                  clear HNO HAT
                  go_wp2
                  go_roundw
                  case rel => exact ⟨u + 1, by omega, by go_num, Hs, hx2⟩
                  case measure => first | (simp [intOf]; done) | (simp [intOf]; omega)
                · have q1 : ((p : Int) == (q : Int)) = false := by simp; omega
                  by_cases e2 : (p : Int) = gi xs (k : Nat)
                  · have q2 : ((p : Int) == gi xs (k : Nat)) = true := by simp [e2]
                    have Hs := HNO (by rw [HFF.out, q1, q2]; rfl)
                    clear e1 e2
                    generalize gi xs (k : Nat) = z at *
                    clear HNO HAT
                    go_wp2
                    go_roundw
                    case rel => exact ⟨u + 1, by omega, by go_num, Hs, hx2⟩
                    case measure => first | (simp [intOf]; done) | (simp [intOf]; omega)
                  · have q2 : ((p : Int) == gi xs (k : Nat)) = false := by simp [e2]
                    by_cases e3 : (q : Int) = gi xs (k : Nat)
                    · have q3 : ((q : Int) == gi xs (k : Nat)) = true := by simp [e3]
                      have Hs := HNO (by rw [HFF.out, q1, q2, q3]; rfl)
                      clear e1 e2 e3
                      generalize gi xs (k : Nat) = z at *
                      clear HNO HAT
                      go_wp2
                      go_roundw
                      case rel => exact ⟨u + 1, by omega, by go_num, Hs, hx2⟩
                      case measure => first | (simp [intOf]; done) | (simp [intOf]; omega)
                    · have q3 : ((q : Int) == gi xs (k : Nat)) = false := by simp [e3]
                      have hsome := HB.out p hpa e2
                      obtain ⟨g1, g2, g3⟩ := ffG_is hsome
                      have HG1 : Hid (oi (fstP (hasC (nbN ns ls k) xs (p : Int)) xs.length) = (ffG ns ls xs k (p : Int) : Nat)) := Lib.hid (by rw [g1]; rfl)
                      have hTl := ffT_len ns ls xs k (p : Int) (q : Int)
                      have HTL := Lib.hid hTl
                      have HTT : Hid (ffT ns ls xs k (p : Int) (q : Int) = swpL xs (ffG ns ls xs k (p : Int) : Nat) (q : Int) (ffL ns ls xs k (p : Int) (q : Int)) (ffL ns ls xs k (p : Int) (q : Int)).length) := Lib.hid rfl
                      have HLI : Hid (∀ j : Nat, j < (ffL ns ls xs k (p : Int) (q : Int)).length → ∃ a : Nat, gi (ffL ns ls xs k (p : Int) (q : Int)) j = a ∧ a < xs.length) := Lib.hid (fun j hj => bitsL_gi hj)
                      have HLP : Hid (0 < (ffL ns ls xs k (p : Int) (q : Int)).length) := Lib.hid (chS_pos g2)
                      have HLE : Hid ((ffL ns ls xs k (p : Int) (q : Int)).length ≤ xs.length) := Lib.hid (bitsL_len _ _)
                      rw [q1, q2, q3] at HFF
                      have hgl : ffG ns ls xs k (p : Int) < xs.length := g2
                      clear g1 g3 hTl e1 e2 e3 hsome
                      go_wp2_with fail
                      refine (l15Has_s A4 c4 rb _ (nbN ns ls k) xs.length _ _ k (p : Int) _ xc xs _ (hM.ext hx2) (hX.ext hx) rfl hx40 hk (fun _ _ => rfl)).mono ?_
                      rintro e w7 ⟨rfl, hb⟩
                      rw [HG1.out]
                      have hx2 := hx2.trans hb
                      have hx := hx.trans hb
                      clear hb
                      generalize (fstP (hasC (nbN ns ls k) xs (p : Int)) xs.length).isSome = ss at *
                      go_wp2_with fail
                      refine (l15Chain_s _ rb _ (nbN ns ls) xs.length _ _ _ xc xs (ffG ns ls xs k (p : Int)) (q : Int) _ (hM.ext hx2) (hX.ext hx) rfl hx40 hgl (fun _ _ _ _ => rfl) hsy.out).mono ?_
                      rintro e w8 ⟨v8, rfl, h8, hb⟩
                      have h8 : OwI w8 w7.heap.size v8 (ffL ns ls xs k (p : Int) (q : Int)) := h8
                      have hx2 := hx2.trans hb
                      have hx := hx.trans hb
                      clear hb
                      generalize ffL ns ls xs k (p : Int) (q : Int) = L at *
                      obtain ⟨A8, c8, rfl, -, -, hin8⟩ := h8.shape
                      clear h8
                      go_wp2_with fail
                      refine (l15Swap_s A8 c8 L _ xc xs (ffG ns ls xs k (p : Int)) (q : Int) _ hin8 (hX.ext hx) hxl HLE.out hgl HLI.out HLP.out).mono ?_
                      rintro e w9 ⟨v9, rfl, h9, hb⟩
                      rw [← HTT.out] at h9
                      have hs8 := hx.size
                      have hx2 := hx2.trans hb
                      have hx := hx.trans hb
                      clear hb hin8
                      obtain ⟨g9, c9, rfl, -, hg9, -, -, -⟩ := h9.gi_ (j := 0) (by rw [HTL.out]; omega)
                      rw [HTL.out] at h9
                      rw [HTL.out]
                      have HT9 := Lib.hid h9.in'
                      go_wp2_with fail
                      refine (l15Has_s A4 c4 rb _ (nbN ns ls k) xs.length _ _ k (p : Int) _ c9 (ffT ns ls xs k (p : Int) (q : Int)) _ (hM.ext hx2) HT9.out HTL.out hx40 hk (fun _ _ => rfl)).mono ?_
                      rintro e w10 ⟨rfl, hb⟩
                      have hx2 := hx2.trans hb
                      cases hh : (fstP (hasC (nbN ns ls k) (ffT ns ls xs k (p : Int) (q : Int)) (p : Int)) xs.length).isSome with
                      | true =>
                        have Hs := HNO (by rw [HFF.out, hh]; rfl)
                        clear hh HT9 h9
                        clear HNO HAT
                        go_wp2
                        go_roundw
                        case rel => exact ⟨u + 1, by omega, by go_num, Hs, hx2⟩
                        case measure => first | (simp [intOf]; done) | (simp [intOf]; omega)
                      | false =>
                        have Hs := HAT (by rw [HFF.out, hh]; rfl)
                        have ho9 := h9.ext hb
                        obtain ⟨s1, s2⟩ := ho9.cel (j := k) (by rw [HTL.out]; exact hk)
                        have Hset := Lib.hid (ho9.set_ HTL.out.symm k (p : Int))
                        obtain ⟨d1, d2⟩ := HDV.out p q hqa
                        have HE1 := Lib.hid HO.out
                        have HD : Hid (ffV ns ls xs k a none (some u) = ((ffT ns ls xs k (p : Int) (q : Int)).set k (p : Int), true)) := Lib.hid (by rw [HVV.out, HPQ.out]; show ((ffT ns ls xs k (((p * a + q) / a : Nat) : Int) (((p * a + q) % a : Nat) : Int)).set k (((p * a + q) / a : Nat) : Int), true) = _; rw [d1, d2])
                        have hx9 := Ext.setCell (p := ⟨g9, k, none⟩) (v := .int .i64 (p : Int)) (hx.trans hb) (by show w.heap.size ≤ g9; omega)
                        clear hh HT9 h9 ho9 HNO HAT d1 d2
                        generalize gi (ffT ns ls xs k (p : Int) (q : Int)) (k : Nat) = u8 at *
                        go_wp2
                        go_ret2
                        exact ⟨_, ret_vb (by rw [HV.out, HE1.out, Hs.out, HD.out]), by rw [HV.out, HE1.out, Hs.out, HD.out]; exact Hset.out.more (by omega), hx9⟩
              · obtain rfl : u = K := by omega
                have HE1 := Lib.hid HO.out
                have HE2 : Hid (fstP P2 (a * a) = none) := Lib.hid (by rw [HKK.out]; exact HO3.out)
                have ho9 := Lib.hid (ho.ext hx2)
                go_wp2
                go_ret2
                exact ⟨_, ret_vb (by rw [HV.out, HE1.out, HE2.out, HVV.out]), by rw [HV.out, HE1.out, HE2.out, HVV.out]; exact ho9.out, hx⟩
      · rw [if_neg (fun e => hr e.2.2)] at HV
        have hr' := eq_false_of_ne_true hr
        go_enter Tryz.func5, Tryz.ntmps5
        go_upto_region 1 with fail
        have k0 : (w.alloc (.cells #[.slice A ns.length c, .slice B ls.length d] 33)).cell? ⟨w.heap.size, 0, none⟩ = some (.slice A ns.length c) := by go_simp
        have k1 : (w.alloc (.cells #[.slice A ns.length c, .slice B ls.length d] 33)).cell? ⟨w.heap.size, 1, none⟩ = some (.slice B ls.length d) := by go_simp
        have hx : Ext w (w.alloc (.cells #[.slice A ns.length c, .slice B ls.length d] 33)) := (by repeat first | exact Ext.refl _ | assumption | refine Ext.drew ?_ | refine Ext.alloc ?_ _ | refine Ext.setCell ?_ (by simp) | refine Ext.setCell ?_ (by simp; omega) | refine Ext.trans ?_ (by assumption))
        have hsz1 : w.heap.size + 1 = (w.alloc (.cells #[.slice A ns.length c, .slice B ls.length d] 33)).heap.size := by simp
        generalize (w.alloc (.cells #[.slice A ns.length c, .slice B ls.length d] 33)) = w0 at *
        (try rw [hsz1])
        have hs0 := hx.size
        go_wp2_with (at_builtin; refine az_ints _ _ rfl rfl (B := w0.heap.size) rfl ((OzI.zero (B := w0.heap.size) _ (Nat.le_refl _) rfl).own (Nat.le_refl _)) ⟨_, rfl⟩ rfl rfl ((hX.ext hx).ext ((Ext.refl _).alloc _)) hxl (by simp) ?_)
        intro vo w1 ho hxa
        have hb : Ext w0 w1 := ((Ext.refl _).alloc _).trans hxa
        clear hxa
        have ho := ho.more hs0
        have k0 := hb.lit k0
        have k1 := hb.lit k1
        have hx := hx.trans hb
        clear hb
        go_wp2_with fail
        refine (AreProper_s _ _ _ _ ns ls X xc xs _ (h.ext hx) (hX.ext hx) hxl).mono ?_
        rintro e w2 ⟨rfl, hb⟩
        have ho := ho.ext hb
        have k0 := hb.lit k0
        have k1 := hb.lit k1
        have hx := hx.trans hb
        clear hb
        rw [hp]
        go_wp2_with fail
        refine (l01In_c _ _ _ _).mono ?_
        rintro e w3 ⟨rfl, rfl⟩
        rw [hq]
        go_wp2_with fail
        refine (l01In_c _ _ _ _).mono ?_
        rintro e w3 ⟨rfl, rfl⟩
        rw [hr']
        go_wp2
        go_ret2
        exact ⟨_, ret_vb (by rw [HV.out]), by rw [HV.out]; exact ho, hx⟩
    · rw [if_neg (fun e => hq e.2.1)] at HV
      have hq' := eq_false_of_ne_true hq
      go_enter Tryz.func5, Tryz.ntmps5
      go_upto_region 1 with fail
      have k0 : (w.alloc (.cells #[.slice A ns.length c, .slice B ls.length d] 33)).cell? ⟨w.heap.size, 0, none⟩ = some (.slice A ns.length c) := by go_simp
      have k1 : (w.alloc (.cells #[.slice A ns.length c, .slice B ls.length d] 33)).cell? ⟨w.heap.size, 1, none⟩ = some (.slice B ls.length d) := by go_simp
      have hx : Ext w (w.alloc (.cells #[.slice A ns.length c, .slice B ls.length d] 33)) := (by repeat first | exact Ext.refl _ | assumption | refine Ext.drew ?_ | refine Ext.alloc ?_ _ | refine Ext.setCell ?_ (by simp) | refine Ext.setCell ?_ (by simp; omega) | refine Ext.trans ?_ (by assumption))
      have hsz1 : w.heap.size + 1 = (w.alloc (.cells #[.slice A ns.length c, .slice B ls.length d] 33)).heap.size := by simp
      generalize (w.alloc (.cells #[.slice A ns.length c, .slice B ls.length d] 33)) = w0 at *
      (try rw [hsz1])
      have hs0 := hx.size
      go_wp2_with (at_builtin; refine az_ints _ _ rfl rfl (B := w0.heap.size) rfl ((OzI.zero (B := w0.heap.size) _ (Nat.le_refl _) rfl).own (Nat.le_refl _)) ⟨_, rfl⟩ rfl rfl ((hX.ext hx).ext ((Ext.refl _).alloc _)) hxl (by simp) ?_)
      intro vo w1 ho hxa
      have hb : Ext w0 w1 := ((Ext.refl _).alloc _).trans hxa
      clear hxa
      have ho := ho.more hs0
      have k0 := hb.lit k0
      have k1 := hb.lit k1
      have hx := hx.trans hb
      clear hb
      go_wp2_with fail
      refine (AreProper_s _ _ _ _ ns ls X xc xs _ (h.ext hx) (hX.ext hx) hxl).mono ?_
      rintro e w2 ⟨rfl, hb⟩
      have ho := ho.ext hb
      have k0 := hb.lit k0
      have k1 := hb.lit k1
      have hx := hx.trans hb
      clear hb
      rw [hp]
      go_wp2_with fail
      refine (l01In_c _ _ _ _).mono ?_
      rintro e w3 ⟨rfl, rfl⟩
      rw [hq']
      go_wp2
      go_ret2
      exact ⟨_, ret_vb (by rw [HV.out]), by rw [HV.out]; exact ho, hx⟩
  · rw [if_neg (fun e => hp e.1)] at HV
    have hp' := eq_false_of_ne_true hp
    go_enter Tryz.func5, Tryz.ntmps5
    go_upto_region 1 with fail
    have k0 : (w.alloc (.cells #[.slice A ns.length c, .slice B ls.length d] 33)).cell? ⟨w.heap.size, 0, none⟩ = some (.slice A ns.length c) := by go_simp
    have k1 : (w.alloc (.cells #[.slice A ns.length c, .slice B ls.length d] 33)).cell? ⟨w.heap.size, 1, none⟩ = some (.slice B ls.length d) := by go_simp
    have hx : Ext w (w.alloc (.cells #[.slice A ns.length c, .slice B ls.length d] 33)) := (by repeat first | exact Ext.refl _ | assumption | refine Ext.drew ?_ | refine Ext.alloc ?_ _ | refine Ext.setCell ?_ (by simp) | refine Ext.setCell ?_ (by simp; omega) | refine Ext.trans ?_ (by assumption))
    have hsz1 : w.heap.size + 1 = (w.alloc (.cells #[.slice A ns.length c, .slice B ls.length d] 33)).heap.size := by simp
    generalize (w.alloc (.cells #[.slice A ns.length c, .slice B ls.length d] 33)) = w0 at *
    (try rw [hsz1])
    have hs0 := hx.size
    go_wp2_with (at_builtin; refine az_ints _ _ rfl rfl (B := w0.heap.size) rfl ((OzI.zero (B := w0.heap.size) _ (Nat.le_refl _) rfl).own (Nat.le_refl _)) ⟨_, rfl⟩ rfl rfl ((hX.ext hx).ext ((Ext.refl _).alloc _)) hxl (by simp) ?_)
    intro vo w1 ho hxa
    have hb : Ext w0 w1 := ((Ext.refl _).alloc _).trans hxa
    clear hxa
    have ho := ho.more hs0
    have k0 := hb.lit k0
    have k1 := hb.lit k1
    have hx := hx.trans hb
    clear hb
    go_wp2_with fail
    refine (AreProper_s _ _ _ _ ns ls X xc xs _ (h.ext hx) (hX.ext hx) hxl).mono ?_
    rintro e w2 ⟨rfl, hb⟩
    have ho := ho.ext hb
    have k0 := hb.lit k0
    have k1 := hb.lit k1
    have hx := hx.trans hb
    clear hb
    rw [hp']
    go_wp2
    go_ret2
    exact ⟨_, ret_vb (by rw [HV.out]), by rw [HV.out]; exact ho, hx⟩
end Go.Proofs.YtimgbllpbadhcaaGreat
