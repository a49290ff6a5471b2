import Derived.Test.YtdcghlklikbfcaaQ6
namespace Go.Proofs.Ytdcghlklikbfcaa.Dt
open Go.RowKit Go.Sort Go.BigFrame

theorem lc_low {q : Nat} (i c : Nat) : lc (0, (q : Int) + 1) i c = if i = q ∧ c = q then 1 else 0 := by
  unfold lc
  rw [oc_low]
  unfold dc
  dsimp only
  by_cases h1 : i = c
  · subst h1
    rw [if_pos rfl, if_neg (by omega)]
    by_cases h2 : i = q
    · rw [if_pos (by omega), if_pos (by omega)]; rfl
    · rw [if_neg (by omega), if_neg (by omega)]; rfl
  · rw [if_neg h1, if_neg (by omega)]; rfl
theorem lc_two {p q : Nat} (hpq : p ≠ q) (i c : Nat) : lc ((p : Int) + 1, (q : Int) + 1) i c = if i = q ∧ c = p then -1 else if i = p ∧ c = q then -1 else if i = q ∧ c = q then 1 else if i = p ∧ c = p then 1 else 0 := by
  unfold lc
  rw [oc_two]
  unfold dc
  dsimp only
  by_cases h1 : i = q ∧ c = p
  · obtain ⟨rfl, rfl⟩ := h1
    rw [if_neg (by omega), if_neg (by omega), if_pos ⟨rfl, rfl⟩, if_pos ⟨rfl, rfl⟩]; rfl
  · by_cases h2 : i = p ∧ c = q
    · obtain ⟨rfl, rfl⟩ := h2
      rw [if_neg (by omega), if_pos ⟨rfl, rfl⟩, if_neg h1, if_neg h1, if_pos ⟨rfl, rfl⟩]; rfl
    · rw [if_neg h1, if_neg h2, if_neg h2, if_neg h1]
      by_cases h3 : i = c
      · subst h3
        rw [if_pos rfl]
        by_cases h4 : i = q
        · rw [if_neg (by omega), if_pos (by omega), if_pos (by omega)]; rfl
        · by_cases h5 : i = p
          · rw [if_pos (by omega), if_neg (by omega), if_neg (by omega), if_pos (by omega)]; rfl
          · rw [if_neg (by omega), if_neg (by omega), if_neg (by omega), if_neg (by omega)]; rfl
      · rw [if_neg h3, if_neg (by omega), if_neg (by omega)]; rfl
theorem lapJ_low {ls : List P2} {t q : Nat} (h : gp ls (t : Nat) = (0, (q : Int) + 1)) (i c : Nat) : (if i = q ∧ c = q then lapJ ls t q q + 1 else lapJ ls t i c) = lapJ ls (t + 1) i c := by
  rw [lapJ_succ, h, lc_low]
  by_cases h1 : i = q ∧ c = q
  · obtain ⟨rfl, rfl⟩ := h1
    rw [if_pos ⟨rfl, rfl⟩, if_pos ⟨rfl, rfl⟩]
  · rw [if_neg h1, if_neg h1]; omega
theorem lapJ_two {ls : List P2} {t p q : Nat} (h : gp ls (t : Nat) = ((p : Int) + 1, (q : Int) + 1)) (hpq : p ≠ q) (i c : Nat) :
    (if i = q ∧ c = p then lapJ ls t q p - 1 else if i = p ∧ c = q then lapJ ls t p q - 1 else if i = q ∧ c = q then lapJ ls t q q + 1 else if i = p ∧ c = p then lapJ ls t p p + 1 else lapJ ls t i c) = lapJ ls (t + 1) i c := by
  rw [lapJ_succ, h, lc_two hpq]
  by_cases h1 : i = q ∧ c = p
  · rw [if_pos h1, if_pos h1, h1.1, h1.2]; omega
  · rw [if_neg h1, if_neg h1]
    by_cases h2 : i = p ∧ c = q
    · rw [if_pos h2, if_pos h2, h2.1, h2.2]; omega
    · rw [if_neg h2, if_neg h2]
      by_cases h3 : i = q ∧ c = q
      · rw [if_pos h3, if_pos h3, h3.1, h3.2]
      · rw [if_neg h3, if_neg h3]
        by_cases h4 : i = p ∧ c = p
        · rw [if_pos h4, if_pos h4, h4.1, h4.2]
        · rw [if_neg h4, if_neg h4]; omega
/-- the pairs -/
def prM (ls : List P2) (i j : Nat) : Int := if j = 0 then (gp ls (i : Nat)).1 else (gp ls (i : Nat)).2
theorem row2_new {w : World} {B g : Nat} {ls : List P2} {t : Nat} {x y : Int} (hg0 : gp ls (t : Nat) = (x, y)) (hB : B ≤ g) (hg : g = w.heap.size) : OwI (w.alloc (.cells #[.int .i64 x, .int .i64 y] 3)) B (.slice (some ⟨g, 0, none⟩) 2 2) (tab 2 (prM ls t)) := by
  have e : tab 2 (prM ls t) = [x, y] := by
    unfold tab prM
    rw [hg0]
    rfl
  rw [e]
  exact OwI.new (Bk.new (w := w) 3 [.int .i64 x, .int .i64 y] hg) hB (show 2 ≤ maxLen by decide)

set_option maxRecDepth 100000 in
set_option maxHeartbeats 8000000 in
theorem l16Matrix_s (gP cP nn N Bq : Nat) (rP : Nat → Nat) (ls : List P2) (w : World) (hP : Mx w Bq Bq (.slice (some ⟨gP, 0, none⟩) ls.length cP) ls.length 2 ls.length rP (prM ls)) (hl : ls.length ≤ 20) (hl0 : 0 < ls.length) (hN : nn = N + 1) (hN0 : 0 < N) (hN11 : N ≤ 11)
    (hL : ∀ t, t < ls.length → ∃ p q : Nat, gp ls (t : Nat) = ((p : Int), (q : Int)) ∧ p < q ∧ q < nn) :
    Calls Try.prog 29 #[.int .i64 (nn : Int), .slice (some ⟨gP, 0, none⟩) ls.length cP] w fun e w' => ∃ g c rb, e = .returned (.slice (some ⟨g, 0, none⟩) N c) ∧ Mx w' w.heap.size w.heap.size (.slice (some ⟨g, 0, none⟩) N c) N N N rb (lapM ls) ∧ Ext w w' := by
  have hne : (nn : Int) - 1 = (N : Int) := by omega
  have HN := Lib.hid hN
  have HL := Lib.hid hL
  have HP := Lib.hid hP
  have hnn : (nn : Int) = (N : Int) + 1 := by omega
  have HNN := Lib.hid hnn
  clear hN hL hP hnn
  obtain ⟨j0, hj, hy0, hy1, hy2⟩ := info_parts infoI4
  have hmk2 := fun W => run_mk1 (P := Try.prog) 41 3 j0 (.int .i64 0) Try.underlying41 hj hy0 hy1 rfl N (by rw [hy2]; omega) (by omega) W
  go_enter Try.func29, Try.ntmps29
  go_upto_region 2 with fail
  have HM : Hid (Mx (w.alloc (.cells #[] 41)) w.heap.size w.heap.size (.slice (some ⟨w.heap.size, 0, none⟩) 0 0) 0 N 0 (fun _ => 0) (fun _ _ => 0)) := Lib.hid (Mx.zero _ _ _ (Nat.le_refl _) rfl)
  have hx2 : Ext w (w.alloc (.cells #[] 41)) := (Ext.refl _).alloc _
  generalize w.alloc (.cells #[] 41) = w1 at *
  go_wp2_with fail
  go_loopw [5, 6] (fun v5 i wr => ∃ (q : Nat) (rb : Nat → Nat) (v : Value), v = v5 ∧ q ≤ N ∧ i = .int .i64 ((q : Int) + 1) ∧ Hid (Mx wr w.heap.size w.heap.size v q N q rb (fun _ _ => 0)) ∧ Ext w wr) (fun _ i _ => N + 1 - (intOf i).toNat)
  case atStart => exact ⟨0, _, _, rfl, by omega, rfl, HM, hx2⟩
  case round =>
    clear HM hx2
    obtain ⟨q, rb, v, rfl, hq, rfl, HM, hx2⟩ := hrel
    obtain ⟨w3, rfl⟩ : ∃ x : World, x = wr := ⟨_, rfl⟩
    have hs3 := hx2.size
    by_cases hqN : q < N
    · have hqi : (q : Int) + 1 < nn := by have := HNN.out; omega
      have HR := Lib.hid (row_new (w := w3) (B := w.heap.size) (n := N) hs3 rfl (by omega))
      have hnew : ∀ i, i < q → rb i < w3.heap.size := fun i hi => (World.ownsRow.lt (HM.out.rw_ i hi) (rb i) rfl).2
      have hxa : Ext w3 (w3.alloc (.cells (Array.replicate N (Value.int .i64 0)) 3)) := (Ext.refl _).alloc _
      have hxb : Ext (w3.alloc (.cells (Array.replicate N (Value.int .i64 0)) 3)) ((w3.alloc (.cells (Array.replicate N (Value.int .i64 0)) 3)).alloc (.cells #[.slice (some ⟨w3.heap.size, 0, none⟩) N N] 41)) := (Ext.refl _).alloc _
      have HNEW := Lib.hid hnew
      clear hnew
      go_wp2_with (at_builtin; refine az_irow _ _ rfl rfl rfl ((HM.out.ext hxa).ext hxb) (g := w3.heap.size + 1) (g1 := w3.heap.size) (by first | rfl | (simp; done)) (by go_simp) (HR.out.ext hxb) HNEW.out (by omega) (by simp; omega) ?_)
      intro v' w9 h9 h9e
      have hx9 := h9e w (hx2.trans (hxa.trans hxb)) (Nat.le_refl _)
      have HM9 := Lib.hid h9
      clear h9 h9e
      go_wp2
      go_roundw
      case rel => first | exact ⟨q + 1, _, _, rfl, by omega, by go_num, HM9, hx9⟩ | ((repeat apply Exists.intro); exact ⟨⟨q + 1, _, _, rfl, by omega, by go_num, HM9, hx9⟩, rfl⟩)
      case measure => first | (simp [intOf]; done) | (simp [intOf]; omega)
    · have eq : q = N := by omega
      have hqi : (nn : Int) ≤ (q : Int) + 1 := by have := HNN.out; omega
      have HMN : Hid (Mx w3 w.heap.size w.heap.size v N N N rb (fun i c => lapJ ls 0 i c)) := Lib.hid (by have := HM.out; rw [eq] at this; exact this.congr (fun _ _ _ _ => rfl))
      obtain ⟨g0, cc, rfl, -, -, -⟩ := HMN.out.shape hN0
      clear HM eq
      go_wp2_with fail
      go_loopw [7, 8, 9] (fun i _ _ wr => ∃ t : Nat, t ≤ ls.length ∧ i = .int .i64 t ∧ Hid (Mx wr w.heap.size w.heap.size (.slice (some ⟨g0, 0, none⟩) N cc) N N N rb (fun i c => lapJ ls t i c)) ∧ Ext w wr) (fun i _ _ _ => ls.length - (intOf i).toNat)
      case atStart => exact ⟨0, by omega, rfl, HMN, hx2⟩
      case round =>
        clear HMN hx2 hs3
        obtain ⟨t, ht, rfl, HM, hx2⟩ := hrel
        obtain ⟨w3, rfl⟩ : ∃ x : World, x = wr := ⟨_, rfl⟩
        have hs3 := hx2.size
        by_cases htl : t < ls.length
        · have hti : (t : Int) < ls.length := by omega
          obtain ⟨p, qq, hg, hpq, hqn⟩ := HL.out t htl
          have hqN1 : qq < N + 1 := by rw [← HN.out]; exact hqn
          obtain ⟨q1, rfl⟩ : ∃ x, qq = x + 1 := ⟨qq - 1, by omega⟩
          have hh := (HP.out.at_ htl (Nat.le_refl _))
          have ha := (HP.out.cel htl (j := 0) (by omega)).1
          have hb := (HP.out.cel htl (j := 1) (by omega)).1
          have hpa : prM ls t 0 = (p : Int) := by unfold prM; rw [if_pos rfl, hg]
          have hpb : prM ls t 1 = (q1 : Int) + 1 := by unfold prM; rw [if_neg (by omega), hg]; rfl
          rw [hpa] at ha
          rw [hpb] at hb
          have hh := hx2.lit hh
          have ha := hx2.lit ha
          have hb := hx2.lit hb
          clear hpa hpb hqn
          by_cases hp0 : p = 0
          · subst hp0
            have HTW := Lib.hid (lapJ_low (q := q1) (by simpa using hg))
            have hbd := lapJ_bd ls q1 q1 t
            obtain ⟨u1, hu1⟩ : ∃ u : Int, lapJ ls t q1 q1 = u := ⟨_, rfl⟩
            rw [hu1] at HTW hbd
            have HU1 := Lib.hid hu1
            obtain ⟨hbl, hbu⟩ := hbd
            have hz : ((0 : Int) == (q1 : Int) + 1) = false := by rw [beq_eq_false_iff_ne]; omega
            have hpos : (0 : Int) < (q1 : Int) + 1 := by omega
            clear hu1 hg
            go_upto_region 15 with fail
            clear hh ha hb
            have t0 := HM.out.at_ (i := q1) (by omega) (Nat.le_refl N)
            have c0 := (HM.out.cel (i := q1) (j := q1) (by omega) (by omega)).1
            rw [HU1.out] at c0
            have d0 := cell_regrown t0
            have d1 := cell_regrown c0
            refine rx_open [(true, 0, some 65, 32), (true, 0, some 66, 512), (true, 2, some 67, 73786976294838206464), (true, 5, some 68, 184467440737095516160), (true, 8, some 69, 295147905179352825856), (true, 0, some 70, 512), (true, 32, some 71, 1180591620717411303424), (true, 0, some 72, 32), (true, 0, some 73, 512), (true, 256, some 74, 9444732965739290427392), (true, 640, some 75, 23611832414348226068480), (true, 1024, some 76, 37778931862957161709568), (true, 0, some 77, 512), (true, 4096, some 78, 151115727451828646838272), (true, 10240, some 79, 377789318629571617095680), (true, 16384, some 80, 604462909807314587353088), (true, 32768, some 81, 1208925819614629174706176), (true, 131071, some 82, 2951479051793528258560), (false, 262143, none, 7253554917687775048237056)] 262144 19 mixd rfl (by kernel_rfl) (by kernel_rfl) (by kernel_rfl) ?_
            have hxc := Ext.drew (Ext.refl w3)
            obtain ⟨wz, hwz⟩ : ∃ x : World, x = w3.drew := ⟨_, rfl⟩
            rw [← hwz]
            rw [← hwz] at hxc
            clear hwz
            have e1 := ((HM.out.ext hxc).cel (i := q1) (j := q1) (by omega) (by omega)).1
            have e2 := ((HM.out.ext hxc).cel (i := q1) (j := q1) (by omega) (by omega)).2
            refine rx_run (run := [0, 1, 2, 3, 4, 5, 6, 7, 8, 9, 10, 11, 12, 13, 14, 15, 16, 17]) (k := 1) (m' := 262143) rfl (by kernel_rfl) (by kernel_rfl) (by kernel_rfl) (fm_cons rfl <| fm_cons rfl <| fm_cons rfl <| fm_cons rfl <| fm_cons rfl <| fm_cons rfl <| fm_cons rfl <| fm_cons rfl <| fm_cons rfl <| fm_cons rfl <| fm_cons rfl <| fm_cons rfl <| fm_cons rfl <| fm_cons rfl <| fm_cons rfl <| fm_cons rfl <| fm_cons rfl <| fm_cons rfl <| List.filterMap_nil) (by repeat first | exact Ext.refl _ | assumption | refine Ext.drew ?_ | refine Ext.alloc ?_ _ | refine Ext.setCell ?_ (by simp) | refine Ext.setCell ?_ (by simp; omega) | refine Ext.trans ?_ (by assumption)) ?_
            repeat (go_big_quiet_step ((fail)))
            refine wpQuiet_nil ?_
            refine rx_op 18 (k := 0) (m' := 524287) rfl rfl (by kernel_rfl) (by kernel_rfl) ?_
            go_wp2
            refine rx_lst (by decide) ?_
            refine rx_end (by kernel_rfl) ?_
            have HM5 := Lib.hid ((HM.out.ext hxc).set_ (i := q1) (j := q1) (by omega) (u1 + 1))
            have hrB := (World.ownsRow.lt (HM.out.rw_ q1 (by omega)) (rb q1) rfl).1
            have hx5 := Ext.setCell (p := ⟨rb q1, q1, none⟩) (v := .int .i64 (u1 + 1)) (hx2.trans hxc) (by show w.heap.size ≤ rb q1; omega)
            have HM6 := Lib.hid (HM5.out.congr (M' := fun i c => lapJ ls (t + 1) i c) (fun i c _ _ => HTW.out i c))
            go_wp2
            go_roundw
            case rel => first | exact ⟨t + 1, by omega, by go_num, HM6, hx5⟩ | ((repeat apply Exists.intro); exact ⟨⟨t + 1, by omega, by go_num, HM6, hx5⟩, rfl⟩)
            case measure => first | (simp [intOf]; done) | (simp [intOf]; omega)
          · obtain ⟨p1, rfl⟩ : ∃ x, p = x + 1 := ⟨p - 1, by omega⟩
            have HTW := Lib.hid (lapJ_two (p := p1) (q := q1) (by simpa using hg) (by omega))
            have hbd1 := lapJ_bd ls p1 p1 t
            have hbd2 := lapJ_bd ls q1 q1 t
            have hbd3 := lapJ_bd ls p1 q1 t
            have hbd4 := lapJ_bd ls q1 p1 t
            obtain ⟨u1, hu1⟩ : ∃ u : Int, lapJ ls t p1 p1 = u := ⟨_, rfl⟩
            obtain ⟨u2, hu2⟩ : ∃ u : Int, lapJ ls t q1 q1 = u := ⟨_, rfl⟩
            obtain ⟨u3, hu3⟩ : ∃ u : Int, lapJ ls t p1 q1 = u := ⟨_, rfl⟩
            obtain ⟨u4, hu4⟩ : ∃ u : Int, lapJ ls t q1 p1 = u := ⟨_, rfl⟩
            rw [hu1, hu2, hu3, hu4] at HTW
            rw [hu1] at hbd1
            rw [hu2] at hbd2
            rw [hu3] at hbd3
            rw [hu4] at hbd4
            have HU1 := Lib.hid hu1
            have HU2 := Lib.hid hu2
            have HU3 := Lib.hid hu3
            have HU4 := Lib.hid hu4
            obtain ⟨hb1l, hb1u⟩ := hbd1
            obtain ⟨hb2l, hb2u⟩ := hbd2
            obtain ⟨hb3l, hb3u⟩ := hbd3
            obtain ⟨hb4l, hb4u⟩ := hbd4
            have hz : (((p1 : Int) + 1) == (q1 : Int) + 1) = false := by rw [beq_eq_false_iff_ne]; omega
            have hpos : (0 : Int) < (q1 : Int) + 1 := by omega
            have hpos1 : (0 : Int) < (p1 : Int) + 1 := by omega
            have hp1N : (p1 : Int) < N := by omega
            have hq1N : (q1 : Int) < N := by omega
            clear hu1 hu2 hu3 hu4 hg
            go_upto_region 13 with fail
            clear hh ha hb
            have t0 := HM.out.at_ (i := p1) (by omega) (Nat.le_refl N)
            have c0 := (HM.out.cel (i := p1) (j := p1) (by omega) (by omega)).1
            rw [HU1.out] at c0
            have d0 := cell_regrown t0
            have d1 := cell_regrown c0
            refine rx_open [(true, 0, some 45, 32), (true, 0, some 46, 256), (true, 2, some 47, 70368744177664), (true, 5, some 48, 175921860444160), (true, 8, some 49, 281474976710656), (true, 0, some 50, 256), (true, 32, some 51, 1125899906842624), (true, 0, some 52, 32), (true, 0, some 53, 256), (true, 256, some 54, 9007199254740992), (true, 640, some 55, 22517998136852480), (true, 1024, some 56, 36028797018963968), (true, 0, some 57, 256), (true, 4096, some 58, 144115188075855872), (true, 10240, some 59, 360287970189639680), (true, 16384, some 60, 576460752303423488), (true, 32768, some 61, 1152921504606846976), (true, 131071, some 62, 2814749767106560), (false, 262143, none, 6917529027641081856)] 262144 19 mixd rfl (by kernel_rfl) (by kernel_rfl) (by kernel_rfl) ?_
            have hxc := Ext.drew (Ext.refl w3)
            obtain ⟨wz, hwz⟩ : ∃ x : World, x = w3.drew := ⟨_, rfl⟩
            rw [← hwz]
            rw [← hwz] at hxc
            clear hwz
            have e1 := ((HM.out.ext hxc).cel (i := p1) (j := p1) (by omega) (by omega)).1
            have e2 := ((HM.out.ext hxc).cel (i := p1) (j := p1) (by omega) (by omega)).2
            refine rx_run (run := [0, 1, 2, 3, 4, 5, 6, 7, 8, 9, 10, 11, 12, 13, 14, 15, 16, 17]) (k := 1) (m' := 262143) rfl (by kernel_rfl) (by kernel_rfl) (by kernel_rfl) (fm_cons rfl <| fm_cons rfl <| fm_cons rfl <| fm_cons rfl <| fm_cons rfl <| fm_cons rfl <| fm_cons rfl <| fm_cons rfl <| fm_cons rfl <| fm_cons rfl <| fm_cons rfl <| fm_cons rfl <| fm_cons rfl <| fm_cons rfl <| fm_cons rfl <| fm_cons rfl <| fm_cons rfl <| fm_cons rfl <| List.filterMap_nil) (by repeat first | exact Ext.refl _ | assumption | refine Ext.drew ?_ | refine Ext.alloc ?_ _ | refine Ext.setCell ?_ (by simp) | refine Ext.setCell ?_ (by simp; omega) | refine Ext.trans ?_ (by assumption)) ?_
            repeat (go_big_quiet_step ((fail)))
            refine wpQuiet_nil ?_
            refine rx_op 18 (k := 0) (m' := 524287) rfl rfl (by kernel_rfl) (by kernel_rfl) ?_
            go_wp2
            refine rx_lst (by decide) ?_
            refine rx_end (by kernel_rfl) ?_
            have HM5 := Lib.hid ((HM.out.ext hxc).set_ (i := p1) (j := p1) (by omega) (u1 + 1))
            have hrB := (World.ownsRow.lt (HM.out.rw_ p1 (by omega)) (rb p1) rfl).1
            have hx5 := Ext.setCell (p := ⟨rb p1, p1, none⟩) (v := .int .i64 (u1 + 1)) (hx2.trans hxc) (by show w.heap.size ≤ rb p1; omega)
            clear t0 c0 d0 d1 e1 e2 hrB
            go_upto_region 15 with fail
            generalize wz.setCell ⟨rb p1, p1, none⟩ (.int .i64 (u1 + 1)) = w5 at *
            clear hxc
            have t0 := HM5.out.at_ (i := q1) (by omega) (Nat.le_refl N)
            have c0 := (HM5.out.cel (i := q1) (j := q1) (by omega) (by omega)).1
            rw [if_neg (by omega), HU2.out] at c0
            have d0 := cell_regrown t0
            have d1 := cell_regrown c0
            refine rx_open [(true, 0, some 65, 32), (true, 0, some 66, 512), (true, 2, some 67, 73786976294838206464), (true, 5, some 68, 184467440737095516160), (true, 8, some 69, 295147905179352825856), (true, 0, some 70, 512), (true, 32, some 71, 1180591620717411303424), (true, 0, some 72, 32), (true, 0, some 73, 512), (true, 256, some 74, 9444732965739290427392), (true, 640, some 75, 23611832414348226068480), (true, 1024, some 76, 37778931862957161709568), (true, 0, some 77, 512), (true, 4096, some 78, 151115727451828646838272), (true, 10240, some 79, 377789318629571617095680), (true, 16384, some 80, 604462909807314587353088), (true, 32768, some 81, 1208925819614629174706176), (true, 131071, some 82, 2951479051793528258560), (false, 262143, none, 7253554917687775048237056)] 262144 19 mixd rfl (by kernel_rfl) (by kernel_rfl) (by kernel_rfl) ?_
            have hxc := Ext.drew (Ext.refl w5)
            obtain ⟨wz, hwz⟩ : ∃ x : World, x = w5.drew := ⟨_, rfl⟩
            rw [← hwz]
            rw [← hwz] at hxc
            clear hwz
            have e1 := ((HM5.out.ext hxc).cel (i := q1) (j := q1) (by omega) (by omega)).1
            have e2 := ((HM5.out.ext hxc).cel (i := q1) (j := q1) (by omega) (by omega)).2
            refine rx_run (run := [0, 1, 2, 3, 4, 5, 6, 7, 8, 9, 10, 11, 12, 13, 14, 15, 16, 17]) (k := 1) (m' := 262143) rfl (by kernel_rfl) (by kernel_rfl) (by kernel_rfl) (fm_cons rfl <| fm_cons rfl <| fm_cons rfl <| fm_cons rfl <| fm_cons rfl <| fm_cons rfl <| fm_cons rfl <| fm_cons rfl <| fm_cons rfl <| fm_cons rfl <| fm_cons rfl <| fm_cons rfl <| fm_cons rfl <| fm_cons rfl <| fm_cons rfl <| fm_cons rfl <| fm_cons rfl <| fm_cons rfl <| List.filterMap_nil) (by repeat first | exact Ext.refl _ | assumption | refine Ext.drew ?_ | refine Ext.alloc ?_ _ | refine Ext.setCell ?_ (by simp) | refine Ext.setCell ?_ (by simp; omega) | refine Ext.trans ?_ (by assumption)) ?_
            repeat (go_big_quiet_step ((fail)))
            refine wpQuiet_nil ?_
            refine rx_op 18 (k := 0) (m' := 524287) rfl rfl (by kernel_rfl) (by kernel_rfl) ?_
            go_wp2
            refine rx_lst (by decide) ?_
            refine rx_end (by kernel_rfl) ?_
            have HM6 := Lib.hid ((HM5.out.ext hxc).set_ (i := q1) (j := q1) (by omega) (u2 + 1))
            have hrB := (World.ownsRow.lt (HM5.out.rw_ q1 (by omega)) (rb q1) rfl).1
            have hx6 := Ext.setCell (p := ⟨rb q1, q1, none⟩) (v := .int .i64 (u2 + 1)) (hx5.trans hxc) (by show w.heap.size ≤ rb q1; omega)
            clear t0 c0 d0 d1 e1 e2 hrB
            go_upto_region 17 with fail
            generalize wz.setCell ⟨rb q1, q1, none⟩ (.int .i64 (u2 + 1)) = w6 at *
            clear hxc
            have t0 := HM6.out.at_ (i := p1) (by omega) (Nat.le_refl N)
            have c0 := (HM6.out.cel (i := p1) (j := q1) (by omega) (by omega)).1
            rw [if_neg (by omega), if_neg (by omega), HU3.out] at c0
            have d0 := cell_regrown t0
            have d1 := cell_regrown c0
            refine rx_open [(true, 0, some 89, 32), (true, 0, some 90, 256), (true, 2, some 91, 1237940039285380274899124224), (true, 5, some 92, 3094850098213450687247810560), (true, 8, some 93, 4951760157141521099596496896), (true, 0, some 94, 512), (true, 32, some 95, 19807040628566084398385987584), (true, 0, some 96, 32), (true, 0, some 97, 256), (true, 256, some 98, 158456325028528675187087900672), (true, 640, some 99, 396140812571321687967719751680), (true, 1024, some 100, 633825300114114700748351602688), (true, 0, some 101, 512), (true, 4096, some 102, 2535301200456458802993406410752), (true, 10240, some 103, 6338253001141147007483516026880), (true, 16384, some 104, 10141204801825835211973625643008), (true, 32768, some 105, 20282409603651670423947251286016), (true, 131071, some 106, 49517601571415210995964968960), (false, 262143, none, 121694457621910022543683507716096)] 262144 19 mixd rfl (by kernel_rfl) (by kernel_rfl) (by kernel_rfl) ?_
            have hxc := Ext.drew (Ext.refl w6)
            obtain ⟨wz, hwz⟩ : ∃ x : World, x = w6.drew := ⟨_, rfl⟩
            rw [← hwz]
            rw [← hwz] at hxc
            clear hwz
            have e1 := ((HM6.out.ext hxc).cel (i := p1) (j := q1) (by omega) (by omega)).1
            have e2 := ((HM6.out.ext hxc).cel (i := p1) (j := q1) (by omega) (by omega)).2
            refine rx_run (run := [0, 1, 2, 3, 4, 5, 6, 7, 8, 9, 10, 11, 12, 13, 14, 15, 16, 17]) (k := 1) (m' := 262143) rfl (by kernel_rfl) (by kernel_rfl) (by kernel_rfl) (fm_cons rfl <| fm_cons rfl <| fm_cons rfl <| fm_cons rfl <| fm_cons rfl <| fm_cons rfl <| fm_cons rfl <| fm_cons rfl <| fm_cons rfl <| fm_cons rfl <| fm_cons rfl <| fm_cons rfl <| fm_cons rfl <| fm_cons rfl <| fm_cons rfl <| fm_cons rfl <| fm_cons rfl <| fm_cons rfl <| List.filterMap_nil) (by repeat first | exact Ext.refl _ | assumption | refine Ext.drew ?_ | refine Ext.alloc ?_ _ | refine Ext.setCell ?_ (by simp) | refine Ext.setCell ?_ (by simp; omega) | refine Ext.trans ?_ (by assumption)) ?_
            repeat (go_big_quiet_step ((fail)))
            refine wpQuiet_nil ?_
            refine rx_op 18 (k := 0) (m' := 524287) rfl rfl (by kernel_rfl) (by kernel_rfl) ?_
            go_wp2
            refine rx_lst (by decide) ?_
            refine rx_end (by kernel_rfl) ?_
            have HM7 := Lib.hid ((HM6.out.ext hxc).set_ (i := p1) (j := q1) (by omega) (u3 - 1))
            have hrB := (World.ownsRow.lt (HM6.out.rw_ p1 (by omega)) (rb p1) rfl).1
            have hx7 := Ext.setCell (p := ⟨rb p1, q1, none⟩) (v := .int .i64 (u3 - 1)) (hx6.trans hxc) (by show w.heap.size ≤ rb p1; omega)
            clear t0 c0 d0 d1 e1 e2 hrB
            go_upto_region 18 with fail
            generalize wz.setCell ⟨rb p1, q1, none⟩ (.int .i64 (u3 - 1)) = w7 at *
            clear hxc
            have t0 := HM7.out.at_ (i := q1) (by omega) (Nat.le_refl N)
            have c0 := (HM7.out.cel (i := q1) (j := p1) (by omega) (by omega)).1
            rw [if_neg (by omega), if_neg (by omega), if_neg (by omega), HU4.out] at c0
            have d0 := cell_regrown t0
            have d1 := cell_regrown c0
            refine rx_open [(true, 0, some 107, 32), (true, 0, some 108, 512), (true, 2, some 109, 324518553658426726783156020576256), (true, 5, some 110, 811296384146066816957890051440640), (true, 8, some 111, 1298074214633706907132624082305024), (true, 0, some 112, 256), (true, 32, some 113, 5192296858534827628530496329220096), (true, 0, some 114, 32), (true, 0, some 115, 512), (true, 256, some 116, 41538374868278621028243970633760768), (true, 640, some 117, 103845937170696552570609926584401920), (true, 1024, some 118, 166153499473114484112975882535043072), (true, 0, some 119, 256), (true, 4096, some 120, 664613997892457936451903530140172288), (true, 10240, some 121, 1661534994731144841129758825350430720), (true, 16384, some 122, 2658455991569831745807614120560689152), (true, 32768, some 123, 5316911983139663491615228241121378304), (true, 131071, some 124, 12980742146337069071326240823050240), (false, 262143, none, 31901471898837980949691369446728269824)] 262144 19 mixd rfl (by kernel_rfl) (by kernel_rfl) (by kernel_rfl) ?_
            have hxc := Ext.drew (Ext.refl w7)
            obtain ⟨wz, hwz⟩ : ∃ x : World, x = w7.drew := ⟨_, rfl⟩
            rw [← hwz]
            rw [← hwz] at hxc
            clear hwz
            have e1 := ((HM7.out.ext hxc).cel (i := q1) (j := p1) (by omega) (by omega)).1
            have e2 := ((HM7.out.ext hxc).cel (i := q1) (j := p1) (by omega) (by omega)).2
            refine rx_run (run := [0, 1, 2, 3, 4, 5, 6, 7, 8, 9, 10, 11, 12, 13, 14, 15, 16, 17]) (k := 1) (m' := 262143) rfl (by kernel_rfl) (by kernel_rfl) (by kernel_rfl) (fm_cons rfl <| fm_cons rfl <| fm_cons rfl <| fm_cons rfl <| fm_cons rfl <| fm_cons rfl <| fm_cons rfl <| fm_cons rfl <| fm_cons rfl <| fm_cons rfl <| fm_cons rfl <| fm_cons rfl <| fm_cons rfl <| fm_cons rfl <| fm_cons rfl <| fm_cons rfl <| fm_cons rfl <| fm_cons rfl <| List.filterMap_nil) (by repeat first | exact Ext.refl _ | assumption | refine Ext.drew ?_ | refine Ext.alloc ?_ _ | refine Ext.setCell ?_ (by simp) | refine Ext.setCell ?_ (by simp; omega) | refine Ext.trans ?_ (by assumption)) ?_
            repeat (go_big_quiet_step ((fail)))
            refine wpQuiet_nil ?_
            refine rx_op 18 (k := 0) (m' := 524287) rfl rfl (by kernel_rfl) (by kernel_rfl) ?_
            go_wp2
            refine rx_lst (by decide) ?_
            refine rx_end (by kernel_rfl) ?_
            have HM8 := Lib.hid ((HM7.out.ext hxc).set_ (i := q1) (j := p1) (by omega) (u4 - 1))
            have hrB := (World.ownsRow.lt (HM7.out.rw_ q1 (by omega)) (rb q1) rfl).1
            have hx8 := Ext.setCell (p := ⟨rb q1, p1, none⟩) (v := .int .i64 (u4 - 1)) (hx7.trans hxc) (by show w.heap.size ≤ rb q1; omega)
            have HM9 := Lib.hid (HM8.out.congr (M' := fun i c => lapJ ls (t + 1) i c) (fun i c _ _ => HTW.out i c))
            go_wp2
            go_roundw
            case rel => first | exact ⟨t + 1, by omega, by go_num, HM9, hx8⟩ | ((repeat apply Exists.intro); exact ⟨⟨t + 1, by omega, by go_num, HM9, hx8⟩, rfl⟩)
            case measure => first | (simp [intOf]; done) | (simp [intOf]; omega)
        · have et : t = ls.length := by omega
          have hti : (ls.length : Int) ≤ t := by omega
          have HMF := Lib.hid (HM.out.congr (M' := lapM ls) (fun i c _ _ => by rw [et]; rfl))
          go_wp2
          go_ret
          exact ⟨g0, cc, rb, rfl, HMF.out, hx2⟩
end Go.Proofs.Ytdcghlklikbfcaa.Dt
