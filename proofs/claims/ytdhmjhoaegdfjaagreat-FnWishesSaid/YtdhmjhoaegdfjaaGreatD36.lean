import Derived.Test.YtdhmjhoaegdfjaaGreatD35
namespace Go.Proofs.YtdhmjhoaegdfjaaGreat
open Go.RowKit Go.Sort Go.BigFrame

/-- all old blocks are as before, but for r and g -/
structure Kp (r g : Nat) (w w' : World) : Prop where
  os : w'.os = w.os
  tape : w'.tape = w.tape
  output : w'.output = w.output
  size : w.heap.size ≤ w'.heap.size
  block : ∀ k, k < w.heap.size → k ≠ r → k ≠ g → w'.heap[k]? = w.heap[k]?
theorem Kp.refl (r g : Nat) (w : World) : Kp r g w w := ⟨rfl, rfl, rfl, Nat.le_refl _, fun _ _ _ _ => rfl⟩
theorem Kp.trans {r g : Nat} {a b c : World} (h : Kp r g a b) (k : Kp r g b c) : Kp r g a c :=
  ⟨k.os.trans h.os, k.tape.trans h.tape, k.output.trans h.output, Nat.le_trans h.size k.size, fun i hi h1 h2 => (k.block i (Nat.lt_of_lt_of_le hi h.size) h1 h2).trans (h.block i hi h1 h2)⟩
theorem Kp.of_r {r : Nat} (g : Nat) {a b : World} (h : a.grownBy b (some r)) : Kp r g a b := ⟨h.os, h.tape, h.output, h.size, fun i hi h1 _ => h.block i hi (fun e => h1 (by injection e))⟩
theorem Kp.of_g (r : Nat) {g : Nat} {a b : World} (h : a.grownBy b (some g)) : Kp r g a b := ⟨h.os, h.tape, h.output, h.size, fun i hi _ h1 => h.block i hi (fun e => h1 (by injection e))⟩
theorem Kp.lit {r g : Nat} {w w' : World} (k : Kp r g w w') {b o : Nat} {v : Value} (h : w.cell? ⟨b, o, none⟩ = some v) (h1 : b ≠ r) (h2 : b ≠ g) : w'.cell? ⟨b, o, none⟩ = some v :=
  (World.cell?_of_block (k.block b (World.block_lt_of_cell? w ⟨b, o, none⟩ h) h1 h2)).trans h
theorem take_set1 {L h : List Int} {c : Int} (ht : L.take h.length = h) (hl : h.length < L.length) : (L.set h.length c).take (h ++ [c]).length = h ++ [c] := by
  have e : L = h ++ L.drop h.length := by
    have := List.take_append_drop h.length L
    rw [ht] at this
    exact this.symm
  obtain ⟨x, t, hxt⟩ : ∃ x t, L.drop h.length = x :: t := by
    cases hd : L.drop h.length with
    | nil =>
      have := congrArg List.length hd
      simp at this
      omega
    | cons x t => exact ⟨x, t, rfl⟩
  rw [hxt] at e
  rw [e, List.set_append_right _ _ (Nat.le_refl _), Nat.sub_self, List.set_cons_zero, show h ++ c :: t = (h ++ [c]) ++ t by simp]
  exact List.take_left' rfl
theorem take_pre {L h : List Int} {c : Int} (ht : L.take (h ++ [c]).length = h ++ [c]) : L.take h.length = h := by
  have := congrArg (List.take h.length) ht
  rw [List.take_take, Nat.min_eq_left (by simp), List.take_left' rfl] at this
  exact this
theorem gi_tk {L h : List Int} {j : Nat} (ht : L.take h.length = h) (hj : j < h.length) : gi L (j : Nat) = gi h (j : Nat) := by
  have : gi (L.take h.length) (j : Nat) = gi L (j : Nat) := by
    unfold gi
    simp [hj]
  rw [ht] at this
  exact this.symm

/-- the captured variables of paint's closure -/
structure PB (w : World) (g gc gt gn gw gr gp F nn : Nat) (T : FuncId) (r bW oW wc bZ zc : Nat) (wish : List Int) (N : Nat → Nat) : Prop where
  c : w.cell? ⟨gc, 0, none⟩ = some (.slice (some ⟨g, 0, none⟩) F F)
  t : w.cell? ⟨gt, 0, none⟩ = some (.func (.func T) #[] #[.pointer (some ⟨r, 0, none⟩)])
  n : w.cell? ⟨gn, 0, none⟩ = some (.int .i64 (nn : Int))
  s : w.cell? ⟨gw, 0, none⟩ = some (.slice (some ⟨bW, oW, none⟩) F wc)
  z : w.cell? ⟨gr, 0, none⟩ = some (.slice (some ⟨bZ, 0, none⟩) F zc)
  p : w.cell? ⟨gp, 0, none⟩ = some (.func (.func 56) #[] #[.pointer (some ⟨gc, 0, none⟩), .pointer (some ⟨gt, 0, none⟩), .pointer (some ⟨gn, 0, none⟩), .pointer (some ⟨gw, 0, none⟩), .pointer (some ⟨gr, 0, none⟩), .pointer (some ⟨gp, 0, none⟩)])
  iw : ∀ j, j < F → w.cell? ⟨bW, oW + j, none⟩ = some (.int .i64 (gi wish (j : Nat)))
  iz : ∀ j, j < F → w.cell? ⟨bZ, j, none⟩ = some (.int .i64 (N j : Nat))
  dr : gc ≠ r ∧ gt ≠ r ∧ gn ≠ r ∧ gw ≠ r ∧ gr ≠ r ∧ gp ≠ r ∧ bW ≠ r ∧ bZ ≠ r
  dg : gc ≠ g ∧ gt ≠ g ∧ gn ≠ g ∧ gw ≠ g ∧ gr ≠ g ∧ gp ≠ g ∧ bW ≠ g ∧ bZ ≠ g
theorem PB.keep {w w' : World} {g gc gt gn gw gr gp F nn : Nat} {T : FuncId} {r bW oW wc bZ zc : Nat} {wish : List Int} {N : Nat → Nat} (h : PB w g gc gt gn gw gr gp F nn T r bW oW wc bZ zc wish N) (k : Kp r g w w') : PB w' g gc gt gn gw gr gp F nn T r bW oW wc bZ zc wish N := by
  obtain ⟨a1, a2, a3, a4, a5, a6, a7, a8⟩ := h.dr
  obtain ⟨b1, b2, b3, b4, b5, b6, b7, b8⟩ := h.dg
  exact ⟨k.lit h.c a1 b1, k.lit h.t a2 b2, k.lit h.n a3 b3, k.lit h.s a4 b4, k.lit h.z a5 b5, k.lit h.p a6 b6, fun j hj => k.lit (h.iw j hj) a7 b7, fun j hj => k.lit (h.iz j hj) a8 b8, h.dr, h.dg⟩

set_option maxRecDepth 100000 in
set_option maxHeartbeats 8000000 in
theorem put_c {σ : Type} (tell : σ → List Int → σ × Bool) (Inv : σ → World → Prop) (g gc gt gn gw gr gp F nn : Nat) (T : FuncId) (r bW oW wc bZ zc : Nat) (wish : List Int) (N : Nat → Nat) (hF : F ≤ 40) (hn6 : nn ≤ 6) (hNl : ∀ j, N j < 2 ^ F) (hgr : g ≠ r) (hT : T = 33 ∨ T = 33)
    (hTell : ∀ s w L, Inv s w → OwI w g (.slice (some ⟨g, 0, none⟩) F F) L → L.length = F → Calls Tryz.prog T #[.slice (some ⟨g, 0, none⟩) F F, .pointer (some ⟨r, 0, none⟩)] w fun e w' => e = .returned (.bool (tell s L).2) ∧ Inv (tell s L).1 w' ∧ w.grownBy w' (some r))
    (hSet : ∀ s w (i : Nat) v, Inv s w → Inv s (w.setCell ⟨g, i, none⟩ v)) :
    ∀ (d : Nat) (s : σ) (h L : List Int) (kf : Int) (w : World), PB w g gc gt gn gw gr gp F nn T r bW oW wc bZ zc wish N → Inv s w → OwI w g (.slice (some ⟨g, 0, none⟩) F F) L → L.length = F → L.take h.length = h → kf = h.length → h.length + d = F →
    Calls Tryz.prog 56 #[.int .i64 kf, .pointer (some ⟨gc, 0, none⟩), .pointer (some ⟨gt, 0, none⟩), .pointer (some ⟨gn, 0, none⟩), .pointer (some ⟨gw, 0, none⟩), .pointer (some ⟨gr, 0, none⟩), .pointer (some ⟨gp, 0, none⟩)] w
      fun e w' => ∃ L', e = .returned (.bool (sr tell N wish nn d s h).2) ∧ Inv (sr tell N wish nn d s h).1 w' ∧ OwI w' g (.slice (some ⟨g, 0, none⟩) F F) L' ∧ L'.length = F ∧ L'.take h.length = h ∧ Kp r g w w' := by
  have HNL := Lib.hid hNl
  have HTELL := Lib.hid hTell
  have HSET := Lib.hid hSet
  clear hNl hTell hSet
  intro d
  induction d with
  | zero =>
    intro s h L kf w hB hI hL hLl hLt hkf hd
    subst hkf
    have hLh : L = h := by rw [List.take_of_length_le (by omega)] at hLt; exact hLt
    subst hLh
    have c0 := hB.c
    have t0 := hB.t
    have hkn : ((L.length : Int) == (F : Int)) = true := by simp; omega
    have hT0 : sr tell N wish nn 0 s L = tell s L := rfl
    have HB := Lib.hid hB
    have HLT := Lib.hid hLt
    clear hB hLt
    rcases hT with rfl | rfl
    · skip
      go_enter Tryz.func56, Tryz.ntmps56
      go_wp2_with fail
      refine (HTELL.out s w L hI hL hLl).mono ?_
      rintro e w1 ⟨rfl, hI1, hg⟩
      have hL1 := hL.gb hg (fun q hq e => hgr (by simp [Value.ownBlock] at hq; injection e with e; omega))
      go_wp2
      go_ret
      exact ⟨L, rfl, hI1, hL1, hLl, HLT.out, Kp.of_r g hg⟩
    · skip
      go_enter Tryz.func56, Tryz.ntmps56
      go_wp2_with fail
      refine (HTELL.out s w L hI hL hLl).mono ?_
      rintro e w1 ⟨rfl, hI1, hg⟩
      have hL1 := hL.gb hg (fun q hq e => hgr (by simp [Value.ownBlock] at hq; injection e with e; omega))
      go_wp2
      go_ret
      exact ⟨L, rfl, hI1, hL1, hLl, HLT.out, Kp.of_r g hg⟩
  | succ d ih =>
    intro s h L kf w hB hI hL hLl hLt hkf hd
    subst hkf
    have IH := Lib.hid ih
    clear ih
    have hlt : h.length < F := by omega
    have hki : (h.length : Int) < F := by omega
    have hkn : ((h.length : Int) == (F : Int)) = false := beq_eq_false_iff_ne.2 (by omega)
    have HI0 : Hid (srC N wish nn (sr tell N wish nn d) h (nn - 0) s = sr tell N wish nn (d + 1) s h) := Lib.hid rfl
    have c0 := hB.c
    have HB := Lib.hid hB
    have HLT := Lib.hid hLt
    have HLL := Lib.hid hLl
    clear hB hLt hLl
    go_enter Tryz.func56, Tryz.ntmps56
    go_wp2_with fail
    go_loopw [9, 10, 11] (fun x _ _ wr => ∃ (c : Nat) (s' : σ) (L' : List Int), c ≤ nn ∧ x = .int .i64 c ∧ Hid (srC N wish nn (sr tell N wish nn d) h (nn - c) s' = sr tell N wish nn (d + 1) s h) ∧ Hid (Inv s' wr) ∧ OwI wr g (.slice (some ⟨g, 0, none⟩) F F) L' ∧ Hid (L'.length = F) ∧ Hid (L'.take h.length = h) ∧ Hid (Kp r g w wr)) (fun x _ _ _ => nn - (intOf x).toNat)
    case atStart => exact ⟨0, s, L, by omega, rfl, HI0, Lib.hid hI, hL, HLL, HLT, Lib.hid (Kp.refl _ _ _)⟩
    case round =>
      clear HI0 hI hL HLL HLT c0
      obtain ⟨c, s', L', hcn, rfl, HI, HINV, hL, HLL, HLT, HK⟩ := hrel
      obtain ⟨w4, rfl⟩ : ∃ x : World, x = wr := ⟨_, rfl⟩
      have HB4 := Lib.hid (HB.out.keep HK.out)
      have n0 := HB4.out.n
      by_cases hcl : c < nn
      · have hci : (c : Int) < nn := by omega
        have c0 := HB4.out.c
        have ws0 := HB4.out.s
        have z0 := HB4.out.z
        have g1 := HB4.out.iw h.length hlt
        have z1 := HB4.out.iz h.length hlt
        have HST := Lib.hid (srC_step (N := N) (wish := wish) (rec := sr tell N wish nn d) (h := h) (s := s') hcl)
        have HAD : Hid (admB N wish h c = (!(decide (0 ≤ gi wish (h.length : Nat)) && gi wish (h.length : Nat) != (c : Int)) && fitB N h h.length c h.length)) := Lib.hid rfl
        by_cases hw0 : 0 ≤ gi wish (h.length : Nat)
        · by_cases hwc : gi wish (h.length : Nat) = (c : Int)
          · have q0 : (gi wish (h.length : Nat) != (c : Int)) = false := by simp [hwc]
            have HA : Hid (admB N wish h c = fitB N h h.length c h.length) := Lib.hid (by rw [HAD.out, q0]; simp)
            clear hwc HAD
            generalize gi wish (h.length : Nat) = y at *
            go_wp2_with fail
            go_loop [10, 11] (fun fr i => ∃ (j : Nat) (b : Bool), j ≤ h.length ∧ i = .int .i64 j ∧ fr = .bool b ∧ Hid (b = fitB N h h.length c j)) (fun _ i => h.length - (intOf i).toNat)
            case atStart => exact ⟨0, true, by omega, rfl, rfl, Lib.hid rfl⟩
            case round =>
              obtain ⟨j, b, hj, rfl, rfl, Hb⟩ := hrel
              by_cases hjl : j < h.length
              · have hji : (j : Int) < h.length := by omega
                have hjn : (j : Int) < F := by omega
                have HF1 : Hid (fitB N h h.length c (j + 1) = (fitB N h h.length c j && !((N h.length).testBit j && gi h (j : Nat) == (c : Int)))) := Lib.hid rfl
                have y1 := (hL.cel (j := j) (by rw [HLL.out]; omega)).1
                rw [gi_tk HLT.out hjl] at y1
                have h40 : 2 ^ F ≤ 2 ^ 40 := Nat.pow_le_pow_right (by omega) hF
                have hNF := HNL.out h.length
                have hbw := bit_w (N h.length) j (by omega) (by omega)
                clear h40 hNF
                rw [← Hb.out] at HF1
                cases b with
                | false =>
                  have Hs : Hid (false = fitB N h h.length c (j + 1)) := Lib.hid (by rw [HF1.out]; rfl)
                  clear hbw
                  go_wp2
                  go_round
                  case rel => exact ⟨j + 1, false, by omega, by go_num, rfl, Hs⟩
                  case measure => simp [intOf]; omega
                | true =>
                  cases hm : (N h.length).testBit j with
                  | false =>
                    rw [hm] at HF1
                    rw [if_neg (by rw [hm]; decide)] at hbw
                    have Hs : Hid (true = fitB N h h.length c (j + 1)) := Lib.hid (by rw [HF1.out]; rfl)
                    clear hm
                    generalize N h.length = Q at *
                    go_wp2
                    go_round
                    case rel => exact ⟨j + 1, true, by omega, by go_num, rfl, Hs⟩
                    case measure => simp [intOf]; omega
                  | true =>
                    rw [hm] at HF1
                    rw [if_pos hm] at hbw
                    clear hm
                    by_cases hy : gi h (j : Nat) = (c : Int)
                    · have q : (gi h (j : Nat) != (c : Int)) = false := by simp [hy]
                      have q2 : (gi h (j : Nat) == (c : Int)) = true := by simp [hy]
                      rw [q2] at HF1
                      have Hs : Hid (false = fitB N h h.length c (j + 1)) := Lib.hid (by rw [HF1.out]; rfl)
                      clear hy
                      generalize gi h (j : Nat) = z at *
                      generalize N h.length = Q at *
                      go_wp2
                      go_round
                      case rel => exact ⟨j + 1, false, by omega, by go_num, rfl, Hs⟩
                      case measure => simp [intOf]; omega
                    · have q : (gi h (j : Nat) != (c : Int)) = true := by simp [hy]
                      have q2 : (gi h (j : Nat) == (c : Int)) = false := by simp [hy]
                      rw [q2] at HF1
                      have Hs : Hid (true = fitB N h h.length c (j + 1)) := Lib.hid (by rw [HF1.out]; rfl)
                      clear hy
                      generalize gi h (j : Nat) = z at *
                      generalize N h.length = Q at *
                      go_wp2
                      go_round
                      case rel => exact ⟨j + 1, true, by omega, by go_num, rfl, Hs⟩
                      case measure => simp [intOf]; omega
              · obtain rfl : j = h.length := by omega
                cases b with
                | false =>
                  have Hno : Hid (admB N wish h c = false) := Lib.hid (by rw [HA.out, ← Hb.out])
                  clear Hb
                  have Hs : Hid (srC N wish nn (sr tell N wish nn d) h (nn - (c + 1)) s' = sr tell N wish nn (d + 1) s h) := Lib.hid (by rw [← HI.out, HST.out, if_neg (by rw [Hno.out]; decide)])
                  clear HST HI
                  go_wp2
                  go_roundw
                  case rel => exact ⟨c + 1, s', L', by omega, by go_num, Hs, HINV, hL, HLL, HLT, HK⟩
                  case measure => first | (simp [intOf]; done) | (simp [intOf]; omega)
                | true =>
                  have Hyes : Hid (admB N wish h c = true) := Lib.hid (by rw [HA.out, ← Hb.out])
                  clear Hb
                  obtain ⟨s1, s2⟩ := hL.cel (j := h.length) (by rw [HLL.out]; exact hlt)
                  have hset := hL.set_ HLL.out.symm h.length (c : Int)
                  have hK5 := HK.out.trans (Kp.of_g r (gb_set (gb_refl w4 (some g)) h.length (.int .i64 (c : Int))))
                  have hI5 := HSET.out s' w4 h.length (.int .i64 (c : Int)) HINV.out
                  have hL5t := take_set1 (c := (c : Int)) HLT.out (by rw [HLL.out]; exact hlt)
                  have HL5l : Hid ((L'.set h.length (c : Int)).length = F) := Lib.hid (by rw [List.length_set]; exact HLL.out)
                  have HSET5 := Lib.hid hset
                  have HK5 := Lib.hid hK5
                  have HI5 := Lib.hid hI5
                  have HL5t := Lib.hid hL5t
                  clear hset hK5 hI5 hL5t hL HINV HK
                  go_upto_region 14 with fail
                  generalize w4.setCell ⟨g, h.length, none⟩ (.int .i64 (c : Int)) = w5 at *
                  have HB5 := Lib.hid (HB.out.keep HK5.out)
                  have p0 := HB5.out.p
                  clear s1 s2 c0 ws0 z0 g1 z1 n0
                  go_wp2_with fail
                  refine (IH.out s' (h ++ [(c : Int)]) _ _ _ HB5.out HI5.out HSET5.out HL5l.out HL5t.out (by simp) (by simp; omega)).mono ?_
                  rintro e w7 ⟨L7, rfl, hI7, hL7, hL7l, hL7t, hK7⟩
                  have HK8 := Lib.hid (HK5.out.trans hK7)
                  have HL7t := Lib.hid (take_pre hL7t)
                  have HL7l := Lib.hid hL7l
                  have HI7 := Lib.hid hI7
                  clear hK7 hL7t hL7l hI7 HSET5 HK5 HI5 HL5l HL5t
                  cases hBb : (sr tell N wish nn d s' (h ++ [(c : Int)])).2 with
                  | true =>
                    have HR : Hid (sr tell N wish nn (d + 1) s h = ((sr tell N wish nn d s' (h ++ [(c : Int)])).1, true)) := Lib.hid (by rw [← HI.out, HST.out, if_pos Hyes.out, if_pos hBb])
                    clear HST HI hBb
                    go_wp2
                    go_ret
                    exact ⟨L7, ret_b (by rw [HR.out]), by rw [HR.out]; exact HI7.out, hL7, HL7l.out, HL7t.out, HK8.out⟩
                  | false =>
                    have Hs : Hid (srC N wish nn (sr tell N wish nn d) h (nn - (c + 1)) (sr tell N wish nn d s' (h ++ [(c : Int)])).1 = sr tell N wish nn (d + 1) s h) := Lib.hid (by rw [← HI.out, HST.out, if_pos Hyes.out, if_neg (by rw [hBb]; decide)])
                    clear HST HI hBb
                    generalize sr tell N wish nn d s' (h ++ [(c : Int)]) = R at *
                    go_wp2
                    go_roundw
                    case rel => exact ⟨c + 1, R.1, L7, by omega, by go_num, Hs, HI7, hL7, HL7l, HL7t, HK8⟩
                    case measure => first | (simp [intOf]; done) | (simp [intOf]; omega)
          · have q0 : (gi wish (h.length : Nat) != (c : Int)) = true := by simp [hwc]
            have Hno : Hid (admB N wish h c = false) := Lib.hid (by rw [HAD.out, q0, decide_eq_true hw0]; rfl)
            clear hwc HAD
            generalize gi wish (h.length : Nat) = y at *
            have Hs : Hid (srC N wish nn (sr tell N wish nn d) h (nn - (c + 1)) s' = sr tell N wish nn (d + 1) s h) := Lib.hid (by rw [← HI.out, HST.out, if_neg (by rw [Hno.out]; decide)])
            clear HST HI
            go_wp2
            go_roundw
            case rel => exact ⟨c + 1, s', L', by omega, by go_num, Hs, HINV, hL, HLL, HLT, HK⟩
            case measure => first | (simp [intOf]; done) | (simp [intOf]; omega)
        · have HA : Hid (admB N wish h c = fitB N h h.length c h.length) := Lib.hid (admB_neg (by omega))
          have hw1 : gi wish (h.length : Nat) < 0 := by omega
          clear HAD
          generalize gi wish (h.length : Nat) = y at *
          go_wp2_with fail
          go_loop [10, 11] (fun fr i => ∃ (j : Nat) (b : Bool), j ≤ h.length ∧ i = .int .i64 j ∧ fr = .bool b ∧ Hid (b = fitB N h h.length c j)) (fun _ i => h.length - (intOf i).toNat)
          case atStart => exact ⟨0, true, by omega, rfl, rfl, Lib.hid rfl⟩
          case round =>
            obtain ⟨j, b, hj, rfl, rfl, Hb⟩ := hrel
            by_cases hjl : j < h.length
            · have hji : (j : Int) < h.length := by omega
              have hjn : (j : Int) < F := by omega
              have HF1 : Hid (fitB N h h.length c (j + 1) = (fitB N h h.length c j && !((N h.length).testBit j && gi h (j : Nat) == (c : Int)))) := Lib.hid rfl
              have y1 := (hL.cel (j := j) (by rw [HLL.out]; omega)).1
              rw [gi_tk HLT.out hjl] at y1
              have h40 : 2 ^ F ≤ 2 ^ 40 := Nat.pow_le_pow_right (by omega) hF
              have hNF := HNL.out h.length
              have hbw := bit_w (N h.length) j (by omega) (by omega)
              clear h40 hNF
              rw [← Hb.out] at HF1
              cases b with
              | false =>
                have Hs : Hid (false = fitB N h h.length c (j + 1)) := Lib.hid (by rw [HF1.out]; rfl)
                clear hbw
                go_wp2
                go_round
                case rel => exact ⟨j + 1, false, by omega, by go_num, rfl, Hs⟩
                case measure => simp [intOf]; omega
              | true =>
                cases hm : (N h.length).testBit j with
                | false =>
                  rw [hm] at HF1
                  rw [if_neg (by rw [hm]; decide)] at hbw
                  have Hs : Hid (true = fitB N h h.length c (j + 1)) := Lib.hid (by rw [HF1.out]; rfl)
                  clear hm
                  generalize N h.length = Q at *
                  go_wp2
                  go_round
                  case rel => exact ⟨j + 1, true, by omega, by go_num, rfl, Hs⟩
                  case measure => simp [intOf]; omega
                | true =>
                  rw [hm] at HF1
                  rw [if_pos hm] at hbw
                  clear hm
                  by_cases hy : gi h (j : Nat) = (c : Int)
                  · have q : (gi h (j : Nat) != (c : Int)) = false := by simp [hy]
                    have q2 : (gi h (j : Nat) == (c : Int)) = true := by simp [hy]
                    rw [q2] at HF1
                    have Hs : Hid (false = fitB N h h.length c (j + 1)) := Lib.hid (by rw [HF1.out]; rfl)
                    clear hy
                    generalize gi h (j : Nat) = z at *
                    generalize N h.length = Q at *
                    go_wp2
                    go_round
                    case rel => exact ⟨j + 1, false, by omega, by go_num, rfl, Hs⟩
                    case measure => simp [intOf]; omega
                  · have q : (gi h (j : Nat) != (c : Int)) = true := by simp [hy]
                    have q2 : (gi h (j : Nat) == (c : Int)) = false := by simp [hy]
                    rw [q2] at HF1
                    have Hs : Hid (true = fitB N h h.length c (j + 1)) := Lib.hid (by rw [HF1.out]; rfl)
                    clear hy
                    generalize gi h (j : Nat) = z at *
                    generalize N h.length = Q at *
                    go_wp2
                    go_round
                    case rel => exact ⟨j + 1, true, by omega, by go_num, rfl, Hs⟩
                    case measure => simp [intOf]; omega
            · obtain rfl : j = h.length := by omega
              cases b with
              | false =>
                have Hno : Hid (admB N wish h c = false) := Lib.hid (by rw [HA.out, ← Hb.out])
                clear Hb
                have Hs : Hid (srC N wish nn (sr tell N wish nn d) h (nn - (c + 1)) s' = sr tell N wish nn (d + 1) s h) := Lib.hid (by rw [← HI.out, HST.out, if_neg (by rw [Hno.out]; decide)])
                clear HST HI
                go_wp2
                go_roundw
                case rel => exact ⟨c + 1, s', L', by omega, by go_num, Hs, HINV, hL, HLL, HLT, HK⟩
                case measure => first | (simp [intOf]; done) | (simp [intOf]; omega)
              | true =>
                have Hyes : Hid (admB N wish h c = true) := Lib.hid (by rw [HA.out, ← Hb.out])
                clear Hb
                obtain ⟨s1, s2⟩ := hL.cel (j := h.length) (by rw [HLL.out]; exact hlt)
                have hset := hL.set_ HLL.out.symm h.length (c : Int)
                have hK5 := HK.out.trans (Kp.of_g r (gb_set (gb_refl w4 (some g)) h.length (.int .i64 (c : Int))))
                have hI5 := HSET.out s' w4 h.length (.int .i64 (c : Int)) HINV.out
                have hL5t := take_set1 (c := (c : Int)) HLT.out (by rw [HLL.out]; exact hlt)
                have HL5l : Hid ((L'.set h.length (c : Int)).length = F) := Lib.hid (by rw [List.length_set]; exact HLL.out)
                have HSET5 := Lib.hid hset
                have HK5 := Lib.hid hK5
                have HI5 := Lib.hid hI5
                have HL5t := Lib.hid hL5t
                clear hset hK5 hI5 hL5t hL HINV HK
                go_upto_region 14 with fail
                generalize w4.setCell ⟨g, h.length, none⟩ (.int .i64 (c : Int)) = w5 at *
                have HB5 := Lib.hid (HB.out.keep HK5.out)
                have p0 := HB5.out.p
                clear s1 s2 c0 ws0 z0 g1 z1 n0
                go_wp2_with fail
                refine (IH.out s' (h ++ [(c : Int)]) _ _ _ HB5.out HI5.out HSET5.out HL5l.out HL5t.out (by simp) (by simp; omega)).mono ?_
                rintro e w7 ⟨L7, rfl, hI7, hL7, hL7l, hL7t, hK7⟩
                have HK8 := Lib.hid (HK5.out.trans hK7)
                have HL7t := Lib.hid (take_pre hL7t)
                have HL7l := Lib.hid hL7l
                have HI7 := Lib.hid hI7
                clear hK7 hL7t hL7l hI7 HSET5 HK5 HI5 HL5l HL5t
                cases hBb : (sr tell N wish nn d s' (h ++ [(c : Int)])).2 with
                | true =>
                  have HR : Hid (sr tell N wish nn (d + 1) s h = ((sr tell N wish nn d s' (h ++ [(c : Int)])).1, true)) := Lib.hid (by rw [← HI.out, HST.out, if_pos Hyes.out, if_pos hBb])
                  clear HST HI hBb
                  go_wp2
                  go_ret
                  exact ⟨L7, ret_b (by rw [HR.out]), by rw [HR.out]; exact HI7.out, hL7, HL7l.out, HL7t.out, HK8.out⟩
                | false =>
                  have Hs : Hid (srC N wish nn (sr tell N wish nn d) h (nn - (c + 1)) (sr tell N wish nn d s' (h ++ [(c : Int)])).1 = sr tell N wish nn (d + 1) s h) := Lib.hid (by rw [← HI.out, HST.out, if_pos Hyes.out, if_neg (by rw [hBb]; decide)])
                  clear HST HI hBb
                  generalize sr tell N wish nn d s' (h ++ [(c : Int)]) = R at *
                  go_wp2
                  go_roundw
                  case rel => exact ⟨c + 1, R.1, L7, by omega, by go_num, Hs, HI7, hL7, HL7l, HL7t, HK8⟩
                  case measure => first | (simp [intOf]; done) | (simp [intOf]; omega)
      · obtain rfl : c = nn := by omega
        have HR : Hid (sr tell N wish c (d + 1) s h = (s', false)) := Lib.hid (by rw [← HI.out]; exact srC_end (Nat.le_refl _))
        go_wp2
        go_ret
        exact ⟨L', ret_b (by rw [HR.out]), by rw [HR.out]; exact HINV.out, hL, HLL.out, HLT.out, HK.out⟩
end Go.Proofs.YtdhmjhoaegdfjaaGreat
