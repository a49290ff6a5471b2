import Derived.Test.YtdcghlklikbfcaaQ5
namespace Go.Proofs.Ytdcghlklikbfcaa.Dt
open Go.RowKit Go.Sort Go.BigFrame

theorem lapI_zero (ls : List P2) (i c : Nat) : lapI ls 0 i c = if i = c then ((lat ls ((i : Int) + 1) ls.length).length : Int) else 0 := by
  unfold lapI
  show _ - (0 : Int) = _
  omega
theorem lapI_succ (ls : List P2) (t i c : Nat) : lapI ls (t + 1) i c = lapI ls t i c - oc (gp ls (t : Nat)) i c := by
  unfold lapI
  show _ - (sumN t _ + oc (gp ls (t : Nat)) i c) = _
  omega
theorem lapJ_succ (ls : List P2) (t i c : Nat) : lapJ ls (t + 1) i c = lapJ ls t i c + lc (gp ls (t : Nat)) i c := rfl
theorem oc_low (q : Int) (i c : Nat) : oc (0, q) i c = 0 := by
  unfold oc
  dsimp only
  rw [if_neg (by omega), if_neg (by omega)]
  rfl
theorem oc_two (p q i c : Nat) : oc ((p : Int) + 1, (q : Int) + 1) i c = (if i = p ∧ c = q then 1 else 0) + (if i = q ∧ c = p then 1 else 0) := by
  unfold oc
  dsimp only
  have e : ∀ x y x' y' : Nat, (if (x : Int) + 1 = (x' : Int) + 1 ∧ (y : Int) + 1 = (y' : Int) + 1 then (1 : Int) else 0) = if x' = x ∧ y' = y then 1 else 0 := fun x y x' y' => by
    by_cases h : x' = x ∧ y' = y
    · rw [if_pos h, if_pos (by omega)]
    · rw [if_neg h, if_neg (by omega)]
  rw [e, e]
theorem oc_bd (l : P2) (i c : Nat) : 0 ≤ oc l i c ∧ oc l i c ≤ 2 := by unfold oc; split <;> split <;> omega
theorem lc_bd (l : P2) (i c : Nat) : -2 ≤ lc l i c ∧ lc l i c ≤ 2 := by
  have := oc_bd l i c
  have : 0 ≤ dc l i ∧ dc l i ≤ 2 := by unfold dc; split <;> split <;> omega
  unfold lc
  split <;> omega
theorem lapI_bd (ls : List P2) (i c : Nat) : ∀ t : Nat, -(2 * (t : Int)) ≤ lapI ls t i c ∧ lapI ls t i c ≤ ls.length
  | 0 => by
    rw [lapI_zero]
    have := lat_len ls ((i : Int) + 1) ls.length
    split <;> omega
  | t + 1 => by
    have ih := lapI_bd ls i c t
    have := oc_bd (gp ls (t : Nat)) i c
    rw [lapI_succ]
    omega
theorem lapJ_bd (ls : List P2) (i c : Nat) : ∀ t : Nat, -(2 * (t : Int)) ≤ lapJ ls t i c ∧ lapJ ls t i c ≤ 2 * t
  | 0 => by show _ ≤ (0 : Int) ∧ (0 : Int) ≤ _; omega
  | t + 1 => by
    have ih := lapJ_bd ls i c t
    have := lc_bd (gp ls (t : Nat)) i c
    rw [lapJ_succ]
    omega
theorem lapI_low {ls : List P2} {t : Nat} {q : Int} (h : gp ls (t : Nat) = (0, q)) (i c : Nat) : lapI ls t i c = lapI ls (t + 1) i c := by rw [lapI_succ, h, oc_low]; omega
theorem lapI_two {ls : List P2} {t p q : Nat} (h : gp ls (t : Nat) = ((p : Int) + 1, (q : Int) + 1)) (hpq : p ≠ q) (i c : Nat) :
    (if i = q ∧ c = p then lapI ls t q p - 1 else if i = p ∧ c = q then lapI ls t p q - 1 else lapI ls t i c) = lapI ls (t + 1) i c := by
  rw [lapI_succ, h, oc_two]
  by_cases h1 : i = q ∧ c = p
  · obtain ⟨rfl, rfl⟩ := h1
    rw [if_pos ⟨rfl, rfl⟩, if_neg (by omega), if_pos ⟨rfl, rfl⟩]
    omega
  · rw [if_neg h1]
    by_cases h2 : i = p ∧ c = q
    · obtain ⟨rfl, rfl⟩ := h2
      rw [if_pos ⟨rfl, rfl⟩, if_pos ⟨rfl, rfl⟩, if_neg h1]
      omega
    · rw [if_neg h2, if_neg h2, if_neg h1]
      omega
theorem mx_new {w : World} {B g N n : Nat} (rb : Nat → Nat) (M : Nat → Nat → Int) (h : w.heap[g]? = some (.cells (Array.replicate N (Value.slice none 0 0)) 41 (0, 0))) (hB : B ≤ g) (hN : N ≤ 12) : Mx w B B (.slice (some ⟨g, 0, none⟩) N N) N n 0 rb M :=
  ⟨.inl ⟨by simp [rws], .inr ⟨g, N, _, rfl, hB, h, Nat.le_refl _, by unfold maxLen; omega, by simp, by simp [rws]⟩⟩, fun i hi => by omega, fun i j _ hj => by omega⟩
theorem row_new {w : World} {B g n : Nat} (hB : B ≤ g) (hg : g = w.heap.size) (hn : n ≤ 12) : OwI (w.alloc (.cells (Array.replicate n (Value.int .i64 0)) 3)) B (.slice (some ⟨g, 0, none⟩) n n) (tab n (fun _ => 0)) := by
  have e : tab n (fun _ => (0 : Int)) = List.replicate n 0 := tab_rep n 0
  have e2 : (List.replicate n (0 : Int)).map (Value.int .i64) = List.replicate n (Value.int .i64 0) := by simp
  have hb : Bk (w.alloc (.cells (Array.replicate n (Value.int .i64 0)) 3)) g 3 ((List.replicate n (0 : Int)).map (Value.int .i64)) := by
    rw [e2, show Array.replicate n (Value.int .i64 0) = (List.replicate n (Value.int .i64 0)).toArray by simp]
    exact Bk.new _ _ hg
  have := OwI.new hb hB (by simp; unfold maxLen; omega)
  rw [e]
  simpa using this
theorem deg_lat {ns ls : List P2} (hW : WOk ns ls) {q N : Nat} (hN : ns.length = N + 1) (hq : q < N) : degOf ns ls ((q : Int) + 1) = ((lat ls ((q : Int) + 1) ls.length).length : Int) := by
  have hh : hasN ns ls ((q : Int) + 1) = true := by simp [hasN, wok_iff.2 hW, wi]; omega
  unfold degOf leadsAt
  rw [if_pos hh, if_pos hh]
/-- a window that is whole has two nodes -/
theorem whole_two {ns ls : List P2} (h : whole ns ls = true) : ∃ N, ns.length = N + 1 ∧ 0 < N ∧ N ≤ 11 := by
  obtain ⟨hW, hl⟩ := whole_ok h
  obtain ⟨a, b, e, hab, hb⟩ := lok_nat' (hW.ld 0 hl).1
  have := hW.hi
  exact ⟨ns.length - 1, by omega, by omega, by omega⟩
theorem lap_okN {ns ls : List P2} {N : Nat} (h : whole ns ls = true) (hN : ns.length = N + 1) : Lap N 0 (lapM ls) ∧ sumN N (fun t => lapM ls t t) ≤ 40 := by
  have h1 := lap_ok h
  have h2 := lap_sum h
  rw [show ns.length - 1 = N by omega] at h1 h2
  exact ⟨h1, h2⟩
def vCountSpanning (ns ls : List P2) : Int := if whole ns ls = true then prv (lapM ls) (ns.length - 1) else 0
set_option maxRecDepth 100000 in
set_option maxHeartbeats 8000000 in
theorem CountSpanning_i (A B : Option Addr) (c d : Nat) (ns ls : List P2) (w : World) (h : Wn w A c B d ns ls) :
    Calls Try.prog 8 #[.agg #[.slice A ns.length c, .slice B ls.length d]] w fun e w' => e = .returned (.int .i64 (vCountSpanning ns ls)) ∧ Ext w w' := by
  have hnl := h.hl
  have hml := h.hm
  cases hwh : whole ns ls with
  | false =>
    have HV : Hid (vCountSpanning ns ls = 0) := Lib.hid (by unfold vCountSpanning; rw [hwh]; rfl)
    go_enter Try.func8, Try.ntmps8
    go_wp2_with fail
    refine (IsWhole_i _ _ _ _ ns ls _ (h.ext (by repeat first | exact Ext.refl _ | assumption | refine Ext.drew ?_ | refine Ext.alloc ?_ _ | refine Ext.setCell ?_ (by simp) | refine Ext.setCell ?_ (by simp; omega) | refine Ext.trans ?_ (by assumption)))).mono ?_
    rw [hwh]
    rintro e w1 ⟨rfl, hb⟩
    go_wp2
    go_ret
    exact ⟨by rw [HV.out]; rfl, (by repeat first | exact Ext.refl _ | assumption | refine Ext.drew ?_ | refine Ext.alloc ?_ _ | refine Ext.setCell ?_ (by simp) | refine Ext.setCell ?_ (by simp; omega) | refine Ext.trans ?_ (by assumption))⟩
  | true =>
    have HW := Lib.hid (whole_ok hwh).1
    have hle := HW.out.le
    obtain ⟨N, hN, hN0, hN11⟩ := whole_two hwh
    have HLP := Lib.hid (lap_okN hwh hN)
    have HV : Hid (vCountSpanning ns ls = prv (lapM ls) N) := Lib.hid (by unfold vCountSpanning; rw [hwh, if_pos rfl, show ns.length - 1 = N by omega])
    have hne : (ns.length : Int) - 1 = (N : Int) := by omega
    have HN := Lib.hid hN
    clear hN
    obtain ⟨i0, hi, hz0, hz1, hz2⟩ := info_parts infoR
    have hmk := fun W => run_mk1 (P := Try.prog) 38 41 i0 (.slice none 0 0) Try.underlying38 hi hz0 hz1 rfl N (by rw [hz2]; omega) (by omega) W
    obtain ⟨j0, hj, hy0, hy1, hy2⟩ := info_parts infoI4
    have hmk2 := fun W => run_mk1 (P := Try.prog) 41 3 j0 (.int .i64 0) Try.underlying41 hj hy0 hy1 rfl N (by rw [hy2]; omega) (by omega) W
    go_enter Try.func8, Try.ntmps8
    go_upto_region 1 with fail
    have k0 : (w.alloc (.cells #[.slice A ns.length c, .slice B ls.length d] 31)).cell? ⟨w.heap.size, 0, none⟩ = some (.slice A ns.length c) := by go_simp
    have k1 : (w.alloc (.cells #[.slice A ns.length c, .slice B ls.length d] 31)).cell? ⟨w.heap.size, 1, none⟩ = some (.slice B ls.length d) := by go_simp
    have hx : Ext w (w.alloc (.cells #[.slice A ns.length c, .slice B ls.length d] 31)) := (by repeat first | exact Ext.refl _ | assumption | refine Ext.drew ?_ | refine Ext.alloc ?_ _ | refine Ext.setCell ?_ (by simp) | refine Ext.setCell ?_ (by simp; omega) | refine Ext.trans ?_ (by assumption))
    have hsz1 : w.heap.size + 1 = (w.alloc (.cells #[.slice A ns.length c, .slice B ls.length d] 31)).heap.size := by simp
    generalize (w.alloc (.cells #[.slice A ns.length c, .slice B ls.length d] 31)) = w0 at *
    (try rw [hsz1])
    go_wp2_with fail
    refine (IsWhole_i _ _ _ _ ns ls _ (h.ext hx)).mono ?_
    rw [hwh]
    rintro e w1 ⟨rfl, hb⟩
    have k0 := hb.lit k0
    have k1 := hb.lit k1
    have hx := hx.trans hb
    clear hb
    go_upto_region 5 with fail
    have HM := Lib.hid (mx_new (w := w1.alloc (.cells (Array.replicate N (Value.slice none 0 0)) 41)) (B := w1.heap.size) (N := N) (n := N) (fun _ => 0) (fun i c => lapI ls 0 i c) (heap_new _ rfl) (Nat.le_refl _) (by omega))
    have hx2 : Ext w1 (w1.alloc (.cells (Array.replicate N (Value.slice none 0 0)) 41)) := (Ext.refl _).alloc _
    generalize w1.alloc (.cells (Array.replicate N (Value.slice none 0 0)) 41) = w2 at *
    generalize hg0 : w1.heap.size = g0 at *
    go_wp2_with fail
    go_loopw [5, 19] (fun _ i wr => ∃ (q : Nat) (rb : Nat → Nat), q ≤ N ∧ i = .int .i64 q ∧ Hid (Mx wr g0 g0 (.slice (some ⟨g0, 0, none⟩) N N) N N q rb (fun i c => lapI ls 0 i c)) ∧ Ext w1 wr) (fun _ i _ => N - (intOf i).toNat)
    case atStart => exact ⟨0, _, by omega, rfl, HM, hx2⟩
    case round =>
      clear HM hx2
      obtain ⟨q, rb, hq, rfl, HM, hx2⟩ := hrel
      obtain ⟨w3, rfl⟩ : ∃ x : World, x = wr := ⟨_, rfl⟩
      by_cases hqN : q < N
      · have hqi : (q : Int) < N := by omega
        have HDG := Lib.hid (deg_lat HW.out HN.out hqN)
        have hs3 := hx2.size
        have t0 := HM.out.hnil hqN
        have tf := HM.out.hfz hN0 q
        have hxa : Ext w3 (w3.alloc (.cells (Array.replicate N (Value.int .i64 0)) 3)) := (Ext.refl _).alloc _
        have HR := Lib.hid (row_new (w := w3) (B := g0) (n := N) (by omega) rfl (by omega))
        have t0 := hxa.lit t0
        have tf := hxa.frz (block_lt_of_cell (HM.out.hnil hqN)) tf
        have HMQ : Hid (Mx (w3.alloc (.cells (Array.replicate N (Value.int .i64 0)) 3)) g0 g0 (.slice (some ⟨g0, 0, none⟩) N N) N N q rb (fun i c => if i < q then lapI ls 0 i c else 0)) := Lib.hid ((HM.out.ext hxa).congr (fun i j hi _ => by rw [if_pos hi]))
        have hnew : ∀ i, i < q → rb i < w3.heap.size := fun i hi => (World.ownsRow.lt (HM.out.rw_ i hi) (rb i) rfl).2
        have hxb := Ext.setCell (p := ⟨g0, q, none⟩) (v := .slice (some ⟨w3.heap.size, 0, none⟩) N N) (hx2.trans hxa) (by show w1.heap.size ≤ g0; omega)
        have HMR := Lib.hid (HMQ.out.hset hqN (g1 := w3.heap.size) (by
          have e : tab N (fun j => if q < q then lapI ls 0 q j else 0) = tab N (fun _ => 0) := tab_congr fun d _ => by rw [if_neg (by omega)]
          rw [e]
          exact HR.out) hnew)
        clear hxa hnew HM HMQ HR
        go_upto_region 9 with fail
        clear t0 tf
        generalize ((w3.alloc (.cells (Array.replicate N (Value.int .i64 0)) 3)).setCell ⟨g0, q, none⟩ (.slice (some ⟨w3.heap.size, 0, none⟩) N N)) = w4 at *
        generalize w3.heap.size = g1 at *
        obtain ⟨rb', hrb⟩ : ∃ r, (fun i => if i = q then g1 else rb i) = r := ⟨_, rfl⟩
        rw [hrb] at HMR
        clear hrb
        obtain ⟨D, hD⟩ : ∃ D : Int, ((lat ls ((q : Int) + 1) ls.length).length : Int) = D := ⟨_, rfl⟩
        rw [hD] at HDG
        have HD := Lib.hid hD
        clear hD
        have j0 := hxb.lit k0
        have j1 := hxb.lit k1
        have t0 := HMR.out.at_ (i := q) (by omega) (by omega)
        have d0 := cell_regrown j0
        have d1 := cell_regrown j1
        have d2 := cell_regrown t0
        refine rx_open [(true, 0, some 27, 16), (true, 0, some 28, 32), (true, 3, some 29, 402653184), (true, 4, some 30, 536870912), (true, 0, some 31, 32), (true, 0, some 32, 2), (true, 0, some 33, 32), (true, 64, some 34, 8589934592), (false, 160, some 35, 21474836480), (true, 511, some 36, 3221225472), (false, 1023, none, 103079215104)] 1024 11 mixd rfl (by kernel_rfl) (by kernel_rfl) (by kernel_rfl) ?_
        refine rx_run (run := [0, 1, 2, 3, 4, 5, 6, 7]) (k := 3) (m' := 255) rfl (by kernel_rfl) (by kernel_rfl) (by kernel_rfl) (fm_cons rfl <| fm_cons rfl <| fm_cons rfl <| fm_cons rfl <| fm_cons rfl <| fm_cons rfl <| fm_cons rfl <| fm_cons rfl <| List.filterMap_nil) (by repeat first | exact Ext.refl _ | assumption | refine Ext.drew ?_ | refine Ext.alloc ?_ _ | refine Ext.setCell ?_ (by simp) | refine Ext.setCell ?_ (by simp; omega) | refine Ext.trans ?_ (by assumption)) ?_
        repeat (go_big_quiet_step ((fail)))
        refine wpQuiet_nil ?_
        refine rx_op 8 (k := 2) (m' := 511) rfl rfl (by kernel_rfl) (by kernel_rfl) ?_
        go_wp2_with ((go_at_call 33; refine (DegreeOf_i A B c d ns ls _ _ (h.ext (hx.trans (hxb.trans (by repeat first | exact Ext.refl _ | assumption | refine Ext.drew ?_ | refine Ext.alloc ?_ _ | refine Ext.setCell ?_ (by simp) | refine Ext.setCell ?_ (by simp; omega) | refine Ext.trans ?_ (by assumption)))))).mono ?_; rw [HDG.out]; rintro e w5 ⟨rfl, hb5⟩; have h45 : Ext w4 w5 := (by repeat first | exact Ext.refl _ | assumption | refine Ext.drew ?_ | refine Ext.alloc ?_ _ | refine Ext.setCell ?_ (by simp) | refine Ext.setCell ?_ (by simp; omega) | refine Ext.trans ?_ (by assumption)); have e1 := ((HMR.out.ext h45).cel (i := q) (j := q) (by omega) hqN).1; have e2 := ((HMR.out.ext h45).cel (i := q) (j := q) (by omega) hqN).2))
        refine rx_on (by repeat first | exact Ext.refl _ | assumption | refine Ext.drew ?_ | refine Ext.alloc ?_ _ | refine Ext.setCell ?_ (by simp) | refine Ext.setCell ?_ (by simp; omega) | refine Ext.trans ?_ (by assumption)) ?_
        refine rx_run (run := [9]) (k := 1) (m' := 1023) rfl (by kernel_rfl) (by kernel_rfl) (by kernel_rfl) (fm_cons rfl <| List.filterMap_nil) (by repeat first | exact Ext.refl _ | assumption | refine Ext.drew ?_ | refine Ext.alloc ?_ _ | refine Ext.setCell ?_ (by simp) | refine Ext.setCell ?_ (by simp; omega) | refine Ext.trans ?_ (by assumption)) ?_
        repeat (go_big_quiet_step ((fail)))
        refine wpQuiet_nil ?_
        refine rx_op 10 (k := 0) (m' := 2047) rfl rfl (by kernel_rfl) (by kernel_rfl) ?_
        go_wp2
        refine rx_lst (by decide) ?_
        refine rx_end (by kernel_rfl) ?_
        have HMD : Hid (Mx (w5.setCell ⟨rb' q, q, none⟩ (.int .i64 D)) g0 g0 (.slice (some ⟨g0, 0, none⟩) N N) N N (q + 1) rb' (fun i c => lapI ls 0 i c)) := Lib.hid (((HMR.out.ext h45).set_ (i := q) (j := q) (by omega) D).congr (fun i j hi _ => by
          rw [lapI_zero]
          by_cases hij : i = q ∧ j = q
          · rw [if_pos hij, if_pos (by omega), hij.1]
            exact HD.out.symm
          · rw [if_neg hij]
            by_cases hiq : i < q
            · rw [if_pos hiq]
            · rw [if_neg hiq, if_neg (by omega)]))
        have hrB := (World.ownsRow.lt (HMR.out.rw_ q (by omega)) (rb' q) rfl).1
        have hxx := Ext.setCell (p := ⟨rb' q, q, none⟩) (v := .int .i64 D) (hxb.trans h45) (by show w1.heap.size ≤ rb' q; omega)
        go_wp2
        go_roundw
        case rel => first | exact ⟨q + 1, rb', by omega, by go_num, HMD, hxx⟩ | ((repeat apply Exists.intro); exact ⟨⟨q + 1, rb', by omega, by go_num, HMD, hxx⟩, rfl⟩)
        case measure => first | (simp [intOf]; done) | (simp [intOf]; omega)
      · have eq : q = N := by omega
        have hqi : (N : Int) ≤ q := by omega
        have HMN : Hid (Mx w3 g0 g0 (.slice (some ⟨g0, 0, none⟩) N N) N N N rb (fun i c => lapI ls 0 i c)) := Lib.hid (by have := HM.out; rw [eq] at this; exact this)
        have j1 := hx2.lit k1
        clear HM eq
        go_wp2_with fail
        clear j1
        go_loopw [7, 41] (fun _ i wr => ∃ t : Nat, t ≤ ls.length ∧ i = .int .i64 t ∧ Hid (Mx wr g0 g0 (.slice (some ⟨g0, 0, none⟩) N N) N N N rb (fun i c => lapI ls t i c)) ∧ Ext w1 wr) (fun _ i _ => ls.length - (intOf i).toNat)
        case atStart => exact ⟨0, by omega, rfl, HMN, hx2⟩
        case round =>
          clear HMN hx2
          obtain ⟨t, ht, rfl, HM, hx2⟩ := hrel
          obtain ⟨w3, rfl⟩ : ∃ x : World, x = wr := ⟨_, rfl⟩
          by_cases htl : t < ls.length
          · have hti : (t : Int) < ls.length := by omega
            obtain ⟨bL, oL, eB, -, x0, x1⟩ := h.g.gp_ htl
            obtain ⟨p, qq, hg, hpq, hqn⟩ := lok_nat' (HW.out.ld t htl).1
            have hg : gp ls (t : Nat) = ((p : Int), (qq : Int)) := hg
            rw [hg] at x0 x1
            have hqN1 : qq < N + 1 := by rw [← HN.out]; exact hqn
            subst eB
            have x0 := (hx.trans hx2).lit x0
            have x1 := (hx.trans hx2).lit x1
            obtain ⟨q1, rfl⟩ : ∃ x, qq = x + 1 := ⟨qq - 1, by omega⟩
            by_cases hp0 : p = 0
            · subst hp0
              have HNX := Lib.hid (HM.out.congr (M' := fun i c => lapI ls (t + 1) i c) (fun i c _ _ => lapI_low hg i c))
              clear hg hqn
              go_upto_region 14 with fail
              have hxa : Ext w3 (w3.alloc (.cells #[.int .i64 0, .int .i64 ((q1 : Int) + 1)] 55)) := (Ext.refl _).alloc _
              have HNY := Lib.hid (HNX.out.ext hxa)
              have hxy := hx2.trans hxa
              go_wp2
              go_roundw
              case rel => exact ⟨t + 1, by omega, by go_num, HNY, hxy⟩
              case measure => first | (simp [intOf]; done) | (simp [intOf]; omega)
            · obtain ⟨p1, rfl⟩ : ∃ x, p = x + 1 := ⟨p - 1, by omega⟩
              have HTW : Hid (∀ i c : Nat, (if i = q1 ∧ c = p1 then lapI ls t q1 p1 - 1 else if i = p1 ∧ c = q1 then lapI ls t p1 q1 - 1 else lapI ls t i c) = lapI ls (t + 1) i c) := Lib.hid (fun i c => lapI_two (by simpa using hg) (by omega) i c)
              have hb1 := lapI_bd ls p1 q1 t
              have hb2 := lapI_bd ls q1 p1 t
              obtain ⟨u1, hu1⟩ : ∃ u : Int, lapI ls t p1 q1 = u := ⟨_, rfl⟩
              obtain ⟨u2, hu2⟩ : ∃ u : Int, lapI ls t q1 p1 = u := ⟨_, rfl⟩
              rw [hu1] at HTW hb1
              rw [hu2] at HTW hb2
              have HU1 := Lib.hid hu1
              have HU2 := Lib.hid hu2
              obtain ⟨hb1l, hb1u⟩ := hb1
              obtain ⟨hb2l, hb2u⟩ := hb2
              have hp0i : (0 : Int) < (p1 : Int) + 1 := by omega
              have hp1i : (p1 : Int) < N := by omega
              have hq1i : (q1 : Int) < N := by omega
              clear hg hqn hp0 hu1 hu2
              go_upto_region 14 with fail
              have hxa : Ext w3 (w3.alloc (.cells #[.int .i64 ((p1 : Int) + 1), .int .i64 ((q1 : Int) + 1)] 55)) := (Ext.refl _).alloc _
              have HBX : Hid (Bk (w3.alloc (.cells #[.int .i64 ((p1 : Int) + 1), .int .i64 ((q1 : Int) + 1)] 55)) w3.heap.size 55 [.int .i64 ((p1 : Int) + 1), .int .i64 ((q1 : Int) + 1)]) := Lib.hid (Bk.new _ _ rfl)
              have HM5 := Lib.hid (HM.out.ext hxa)
              have hrp := (World.ownsRow.lt (HM.out.rw_ p1 (by omega)) (rb p1) rfl)
              have hrq := (World.ownsRow.lt (HM.out.rw_ q1 (by omega)) (rb q1) rfl)
              have hx5 := hx2.trans hxa
              generalize (w3.alloc (.cells #[.int .i64 ((p1 : Int) + 1), .int .i64 ((q1 : Int) + 1)] 55)) = w5 at *
              generalize w3.heap.size = gb at *
              clear x0 x1 HM hxa
              have y0 : w5.cell? ⟨gb, 0, none⟩ = some (.int .i64 ((p1 : Int) + 1)) := HBX.out.cell 0
              have y1 : w5.cell? ⟨gb, 1, none⟩ = some (.int .i64 ((q1 : Int) + 1)) := HBX.out.cell 1
              have t0 := HM5.out.at_ (i := p1) (by omega) (Nat.le_refl N)
              have c0 := (HM5.out.cel (i := p1) (j := q1) (by omega) (by omega)).1
              rw [HU1.out] at c0
              go_upto_region 15 with fail
              have d0 := cell_regrown y0
              have d1 := cell_regrown y1
              have d2 := cell_regrown t0
              have d3 := cell_regrown c0
              refine rx_open [(true, 0, some 48, 16), (true, 0, some 49, 128), (true, 2, some 50, 562949953421312), (true, 4, some 51, 1125899906842624), (true, 9, some 52, 2533274790395904), (true, 16, some 53, 4503599627370496), (true, 0, some 54, 128), (true, 64, some 55, 18014398509481984), (true, 128, some 56, 36028797018963968), (true, 288, some 57, 81064793292668928), (true, 512, some 58, 144115188075855872), (true, 1024, some 59, 288230376151711744), (true, 4095, some 60, 81064793292668928), (false, 8191, none, 1729382256910270464)] 8192 14 mixd rfl (by kernel_rfl) (by kernel_rfl) (by kernel_rfl) ?_
              have hxc := Ext.drew (Ext.refl w5)
              obtain ⟨wz, hwz⟩ : ∃ x : World, x = w5.drew := ⟨_, rfl⟩
              rw [← hwz]
              rw [← hwz] at hxc
              clear hwz
              have e1 := ((HM5.out.ext hxc).cel (i := p1) (j := q1) (by omega) (by omega)).1
              have e2 := ((HM5.out.ext hxc).cel (i := p1) (j := q1) (by omega) (by omega)).2
              refine rx_run (run := [0, 1, 2, 3, 4, 5, 6, 7, 8, 9, 10, 11, 12]) (k := 1) (m' := 8191) rfl (by kernel_rfl) (by kernel_rfl) (by kernel_rfl) (fm_cons rfl <| fm_cons rfl <| fm_cons rfl <| fm_cons rfl <| fm_cons rfl <| fm_cons rfl <| fm_cons rfl <| fm_cons rfl <| fm_cons rfl <| fm_cons rfl <| fm_cons rfl <| fm_cons rfl <| fm_cons rfl <| List.filterMap_nil) (by repeat first | exact Ext.refl _ | assumption | refine Ext.drew ?_ | refine Ext.alloc ?_ _ | refine Ext.setCell ?_ (by simp) | refine Ext.setCell ?_ (by simp; omega) | refine Ext.trans ?_ (by assumption)) ?_
              repeat (go_big_quiet_step ((fail)))
              refine wpQuiet_nil ?_
              refine rx_op 13 (k := 0) (m' := 16383) rfl rfl (by kernel_rfl) (by kernel_rfl) ?_
              go_wp2
              refine rx_lst (by decide) ?_
              refine rx_end (by kernel_rfl) ?_
              have HM6 := Lib.hid ((HM5.out.ext hxc).set_ (i := p1) (j := q1) (by omega) (u1 - 1))
              have HB6 := Lib.hid ((HBX.out.ext hxc).far (p := ⟨rb p1, q1, none⟩) (by show gb ≠ rb p1; omega) (.int .i64 (u1 - 1)))
              have hx6 := Ext.setCell (p := ⟨rb p1, q1, none⟩) (v := .int .i64 (u1 - 1)) (hx5.trans hxc) (by show w1.heap.size ≤ rb p1; omega)
              clear e1 e2 d0 d1 d2 d3 t0 c0 y0 y1 HM5 HBX hx5
              go_upto_region 16 with fail
              generalize wz.setCell ⟨rb p1, q1, none⟩ (.int .i64 (u1 - 1)) = w6 at *
              clear hxc
              have y0 : w6.cell? ⟨gb, 0, none⟩ = some (.int .i64 ((p1 : Int) + 1)) := HB6.out.cell 0
              have y1 : w6.cell? ⟨gb, 1, none⟩ = some (.int .i64 ((q1 : Int) + 1)) := HB6.out.cell 1
              have t0 := HM6.out.at_ (i := q1) (by omega) (Nat.le_refl N)
              have c0 := (HM6.out.cel (i := q1) (j := p1) (by omega) (by omega)).1
              rw [if_neg (by omega), HU2.out] at c0
              have d0 := cell_regrown y0
              have d1 := cell_regrown y1
              have d2 := cell_regrown t0
              have d3 := cell_regrown c0
              refine rx_open [(true, 0, some 61, 16), (true, 0, some 62, 128), (true, 2, some 63, 4611686018427387904), (true, 4, some 64, 9223372036854775808), (true, 9, some 65, 20752587082923245568), (true, 16, some 66, 36893488147419103232), (true, 0, some 67, 128), (true, 64, some 68, 147573952589676412928), (true, 128, some 69, 295147905179352825856), (true, 288, some 70, 664082786653543858176), (true, 512, some 71, 1180591620717411303424), (true, 1024, some 72, 2361183241434822606848), (true, 4095, some 73, 664082786653543858176), (false, 8191, none, 14167099448608935641088)] 8192 14 mixd rfl (by kernel_rfl) (by kernel_rfl) (by kernel_rfl) ?_
              have hxc := Ext.drew (Ext.refl w6)
              obtain ⟨wz, hwz⟩ : ∃ x : World, x = w6.drew := ⟨_, rfl⟩
              rw [← hwz]
              rw [← hwz] at hxc
              clear hwz
              have e1 := ((HM6.out.ext hxc).cel (i := q1) (j := p1) (by omega) (by omega)).1
              have e2 := ((HM6.out.ext hxc).cel (i := q1) (j := p1) (by omega) (by omega)).2
              refine rx_run (run := [0, 1, 2, 3, 4, 5, 6, 7, 8, 9, 10, 11, 12]) (k := 1) (m' := 8191) rfl (by kernel_rfl) (by kernel_rfl) (by kernel_rfl) (fm_cons rfl <| fm_cons rfl <| fm_cons rfl <| fm_cons rfl <| fm_cons rfl <| fm_cons rfl <| fm_cons rfl <| fm_cons rfl <| fm_cons rfl <| fm_cons rfl <| fm_cons rfl <| fm_cons rfl <| fm_cons rfl <| List.filterMap_nil) (by repeat first | exact Ext.refl _ | assumption | refine Ext.drew ?_ | refine Ext.alloc ?_ _ | refine Ext.setCell ?_ (by simp) | refine Ext.setCell ?_ (by simp; omega) | refine Ext.trans ?_ (by assumption)) ?_
              repeat (go_big_quiet_step ((fail)))
              refine wpQuiet_nil ?_
              refine rx_op 13 (k := 0) (m' := 16383) rfl rfl (by kernel_rfl) (by kernel_rfl) ?_
              go_wp2
              refine rx_lst (by decide) ?_
              refine rx_end (by kernel_rfl) ?_
              have HM7 := Lib.hid (((HM6.out.ext hxc).set_ (i := q1) (j := p1) (by omega) (u2 - 1)).congr (M' := fun i c => lapI ls (t + 1) i c) (fun i c _ _ => HTW.out i c))
              have hx7 := Ext.setCell (p := ⟨rb q1, p1, none⟩) (v := .int .i64 (u2 - 1)) (hx6.trans hxc) (by show w1.heap.size ≤ rb q1; omega)
              go_wp2
              go_roundw
              case rel => first | exact ⟨t + 1, by omega, by go_num, HM7, hx7⟩ | ((repeat apply Exists.intro); exact ⟨⟨t + 1, by omega, by go_num, HM7, hx7⟩, rfl⟩)
              case measure => first | (simp [intOf]; done) | (simp [intOf]; omega)
          · have et : t = ls.length := by omega
            have hti : (ls.length : Int) ≤ t := by omega
            have HMF := Lib.hid (HM.out.congr (M' := lapM ls) (fun i c _ _ => by
              rw [et]
              exact lapI_all (fun z hz => by
                obtain ⟨p, qq, hg, hpq, _⟩ := lok_nat' (HW.out.ld z hz).1
                have hg : gp ls (z : Nat) = ((p : Int), (qq : Int)) := hg
                rw [hg]
                dsimp only
                omega) i c))
            have hs := hx2.size
            go_wp2_with fail
            refine (determinant_i g0 N N rb (lapM ls) g0 g0 _ w1 HMF.out hN0 (by omega) HLP.out.1 HLP.out.2 hx2 (by omega)).mono ?_
            rintro e w9 ⟨rfl, hb9⟩
            go_wp2
            go_ret
            exact ⟨by rw [HV.out]; rfl, hx.trans hb9⟩
end Go.Proofs.Ytdcghlklikbfcaa.Dt
