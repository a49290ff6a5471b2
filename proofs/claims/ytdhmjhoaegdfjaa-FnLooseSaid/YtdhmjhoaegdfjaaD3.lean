import Derived.Test.YtdhmjhoaegdfjaaD2
import Derived.Test.YtdhmjhoaegdfjaaG9
import Derived.Test.YtdhmjhoaegdfjaaR3
namespace Go.Proofs.Ytdhmjhoaegdfjaa
open Go.RowKit Go.Sort Go.BigFrame

theorem idxOf_at {l : List Nat} {d j : Nat} (hj : j < l.length) (h : l.getD j 0 = d) (hn : ∀ i, i < j → l.getD i 0 ≠ d) : l.idxOf d = j := by
  induction l generalizing j with
  | nil => simp at hj
  | cons a t ih =>
    rw [List.idxOf_cons]
    cases j with
    | zero =>
      have : a = d := by simpa using h
      simp [this]
    | succ j =>
      have h0 : a ≠ d := by have := hn 0 (by omega); simpa using this
      have : (a == d) = false := beq_eq_false_iff_ne.2 h0
      rw [this]
      simp only [cond_false]
      rw [ih (by simpa using hj) (by simpa using h) (fun i hi => by have := hn (i + 1) (by omega); simpa using this)]

set_option maxHeartbeats 1000000 in
theorem Index_c (A : Option Addr) (c : Nat) (l : List Nat) (d : Nat) (w : World) (h : In w w.heap.size A (nl l)) (hl : l.length ≤ 1000) (hd : d ∈ l) :
    Calls Try.prog 139 #[.slice A l.length c, .int .i64 (d : Int)] w fun e w' => e = .returned (.int .i64 ((l.idxOf d : Nat) : Int)) ∧ w = w' := by
  have HL := Lib.hid (nl_len l)
  have hil := List.idxOf_lt_length_of_mem hd
  have HI : Hid (l.getD (l.idxOf d) 0 = d) := Lib.hid (by rw [getD_at l hil]; exact List.getElem_idxOf hil)
  go_enter Try.func139, Try.ntmps139
  go_wp2
  go_loop [5, 8] (fun _ i => ∃ j : Nat, j ≤ l.length ∧ i = .int .i64 j ∧ Hid (∀ i, i < j → l.getD i 0 ≠ d)) (fun _ i => l.length - (intOf i).toNat)
  case atStart => exact ⟨0, by omega, rfl, Lib.hid (fun i hi => by omega)⟩
  case round =>
    obtain ⟨j, hj, rfl, ha⟩ := hrel
    by_cases hlt : j < l.length
    · obtain ⟨b, off, rfl, hbb, c1⟩ := h.gi_ (k := j) (by rw [HL.out]; exact hlt)
      rw [nl_gi l hlt] at c1
      by_cases he : l.getD j 0 = d
      · have HE := Lib.hid (idxOf_at hlt he ha.out)
        rw [he] at c1
        have hq : ((d : Int) == (d : Int)) = true := by simp
        go_wp2
        go_ret
        exact ⟨ret_i (by rw [HE.out]), rfl⟩
      · have hk : Hid (∀ i, i < j + 1 → l.getD i 0 ≠ d) := Lib.hid (fun i hi => by
          rcases Nat.lt_succ_iff_lt_or_eq.1 hi with h | h
          · exact ha.out i h
          · subst h; exact he)
        have hq : ((d : Int) == ((l.getD j 0 : Nat) : Int)) = false := beq_eq_false_iff_ne.2 (by omega)
        generalize l.getD j 0 = x at *
        go_wp2
        go_round
        case rel => exact ⟨j + 1, by omega, by go_num, hk⟩
        case measure => simp [intOf]; omega
    · exfalso
      have := ha.out (l.idxOf d) (by omega)
      exact this HI.out

/-! ### the sort -/
def insAll (lt : Nat → Nat → Bool) : List Nat → List Nat → List Nat
  | acc, [] => acc
  | acc, d :: t => insAll lt (ins lt d acc) t
theorem insAll_snoc (lt : Nat → Nat → Bool) : ∀ (l acc : List Nat) (d : Nat), insAll lt acc (l ++ [d]) = ins lt d (insAll lt acc l)
  | [], _, _ => rfl
  | x :: t, acc, d => insAll_snoc lt t (ins lt x acc) d
theorem insAll_len (lt : Nat → Nat → Bool) : ∀ (l acc : List Nat), (insAll lt acc l).length = acc.length + l.length
  | [], _ => rfl
  | x :: t, acc => by
    show (insAll lt (ins lt x acc) t).length = _
    rw [insAll_len lt t, (ins_perm lt x acc).length_eq]
    simp; omega
theorem insAll_mem (lt : Nat → Nat → Bool) : ∀ (l acc : List Nat) (x : Nat), x ∈ insAll lt acc l ↔ x ∈ acc ∨ x ∈ l
  | [], acc, x => by simp [insAll]
  | y :: t, acc, x => by
    show x ∈ insAll lt (ins lt y acc) t ↔ _
    rw [insAll_mem lt t, (ins_perm lt y acc).mem_iff]
    simp only [List.mem_cons]
    constructor
    · rintro ((h | h) | h)
      · exact .inr (.inl h)
      · exact .inl h
      · exact .inr (.inr h)
    · rintro (h | h | h)
      · exact .inl (.inr h)
      · exact .inl (.inl h)
      · exact .inr h
theorem arnN_insAll (ns ls : List P2) (k : Int) : ∀ j, arnN ns ls k j = insAll (dlt ns ls k) [] (dAt ls k j)
  | 0 => rfl
  | j + 1 => by
    have ih := arnN_insAll ns ls k j
    unfold arnN dAt
    rw [List.range_succ, List.filter_append]
    by_cases h : (dEnds ls j).1 = k
    · rw [if_pos h]
      have : List.filter (fun d => decide ((dEnds ls d).1 = k)) [j] = [j] := by simp [h]
      rw [this, insAll_snoc, ih]
      rfl
    · rw [if_neg h]
      have : List.filter (fun d => decide ((dEnds ls d).1 = k)) [j] = [] := by simp [h]
      rw [this, List.append_nil]
      exact ih
/-- sorted ahead of the i-th, the i-th on its way at place a -/
def srt (lt : Nat → Nat → Bool) (l : List Nat) (i a : Nat) : List Int := mid (insAll lt [] (l.take i)) a (l.getD i 0 : Nat) ++ nl (l.drop (i + 1))
def srd (lt : Nat → Nat → Bool) (l : List Nat) (i : Nat) : List Int := nl (insAll lt [] (l.take i)) ++ nl (l.drop i)
section
variable {lt : Nat → Nat → Bool} {l : List Nat} {i a : Nat}
theorem acc_len (hi : i ≤ l.length) : (insAll lt [] (l.take i)).length = i := by rw [insAll_len, List.length_take]; simp; omega
theorem srt_len (hi : i < l.length) (ha : a ≤ i) : (srt lt l i a).length = l.length := by
  unfold srt
  rw [List.length_append, mid_len (by rw [acc_len (by omega)]; exact ha), acc_len (by omega), nl_len, List.length_drop]; omega
theorem srd_len (hi : i ≤ l.length) : (srd lt l i).length = l.length := by
  unfold srd
  rw [List.length_append, nl_len, nl_len, acc_len hi, List.length_drop]; omega
theorem gi_left {L M : List Int} {j : Nat} (h : j < L.length) : gi (L ++ M) j = gi L j := by
  rw [gi_nat _ _ (by rw [List.length_append]; omega), gi_nat _ _ h, List.getElem_append_left h]
theorem srt_at (hi : i < l.length) (ha : a ≤ i) : gi (srt lt l i a) a = (l.getD i 0 : Nat) := by
  have h1 := acc_len (lt := lt) (l := l) (i := i) (by omega)
  unfold srt
  rw [gi_left (by rw [mid_len (by omega)]; omega), mid_at (by omega)]
theorem srt_before (hi : i < l.length) (ha : a < i) : gi (srt lt l i (a + 1)) a = ((insAll lt [] (l.take i)).getD a 0 : Nat) := by
  have h1 := acc_len (lt := lt) (l := l) (i := i) (by omega)
  unfold srt
  rw [gi_left (by rw [mid_len (by omega)]; omega), mid_lt (by omega)]
theorem srt_swap (hi : i < l.length) (ha : a < i) : ((srt lt l i (a + 1)).set (a + 1) ((insAll lt [] (l.take i)).getD a 0 : Nat)).set a (l.getD i 0 : Nat) = srt lt l i a := by
  have h1 := acc_len (lt := lt) (l := l) (i := i) (by omega)
  unfold srt
  rw [List.set_append_left _ _ (by rw [mid_len (by omega)]; omega), mid_shift (by omega), List.set_append_left _ _ (by rw [mid_len (by omega)]; omega), mid_set (by omega)]
theorem srt_start (hi : i < l.length) : srd lt l i = srt lt l i i := by
  have h1 := acc_len (lt := lt) (l := l) (i := i) (by omega)
  unfold srd srt mid
  generalize insAll lt [] (l.take i) = acc at *
  rw [show List.take i acc = acc from List.take_of_length_le (by omega), show List.drop i acc = [] from List.drop_of_length_le (by omega), List.drop_eq_getElem_cons hi, getD_at l hi]
  simp only [nl, List.map_cons, List.map_nil, List.append_assoc, List.cons_append, List.nil_append]
theorem srt_end (hi : i < l.length) (h : insPos lt (l.getD i 0) (insAll lt [] (l.take i)) (insAll lt [] (l.take i)).length = a) : srt lt l i a = srd lt l (i + 1) := by
  unfold srt srd
  rw [mid_ins h, List.take_succ_eq_append_getElem hi, insAll_snoc, getD_at l hi]
end
theorem srd_zero (lt : Nat → Nat → Bool) (l : List Nat) : srd lt l 0 = nl l := by simp [srd, insAll, nl]
theorem srd_one (lt : Nat → Nat → Bool) (l : List Nat) (h : 0 < l.length) : srd lt l 1 = nl l := by
  rw [← srt_end (a := 0) h rfl, ← srt_start h, srd_zero]
theorem srd_all (lt : Nat → Nat → Bool) (l : List Nat) : srd lt l l.length = nl (insAll lt [] l) := by simp [srd, nl]

set_option maxRecDepth 100000 in
set_option maxHeartbeats 8000000 in
theorem insSort_c (W : World) (gw gk : Nat) (A B : Option Addr) (c d : Nat) (ns ls : List P2) (k : Nat) (v : Value) (l : List Nat) (w : World) (h : Wn W A c B d ns ls) (hW : WOk ns ls) (hk : k < ns.length)
    (k0 : W.cell? ⟨gw, 0, none⟩ = some (.slice A ns.length c)) (k1 : W.cell? ⟨gw, 1, none⟩ = some (.slice B ls.length d)) (kk : W.cell? ⟨gk, 0, none⟩ = some (.int .i64 (k : Int)))
    (hx : Ext W w) (hv : OwI w W.heap.size v (nl l)) (hl : l.length ≤ 40) (hn : l.Nodup) (hm : ∀ x ∈ l, x < 2 * ls.length) :
    Calls Try.prog 140 #[v, .int .i64 0, .int .i64 (l.length : Int), .func (.func 117) #[] #[.pointer (some ⟨gw, 0, none⟩), .pointer (some ⟨gk, 0, none⟩)]] w
      fun e w' => (∃ u, e = .returned u) ∧ OwI w' W.heap.size v (nl (insAll (dlt ns ls k) [] l)) ∧ Ext W w' := by
  have HN := Lib.hid hn
  have HM := Lib.hid hm
  have HW := Lib.hid hW
  clear hn hm hW
  have HNL := Lib.hid (nl_len l)
  have HD : Hid (∀ x y : Nat, cmpv ns ls k x y = if dlt ns ls k x y = true then -1 else 1) := Lib.hid (fun _ _ => rfl)
  generalize hP : dlt ns ls k = P at *
  clear hP
  rcases Nat.eq_zero_or_pos l.length with h0 | h0
  · have hl0 : l = [] := by simpa using h0
    subst hl0
    go_enter Try.func140, Try.ntmps140
    go_wp2_with fail
    go_loop [8] (fun i => i = .int .i64 1) (fun _ => 0)
    case atStart => rfl
    case round =>
      obtain rfl := hrel
      go_wp2
      go_end0
      exact ⟨⟨_, rfl⟩, hv, hx⟩
  obtain ⟨g, cp, rfl, hcap, hgB, hgw, -, -⟩ := hv.gi_ (j := 0) (by rw [HNL.out]; exact h0)
  rw [HNL.out] at hv hcap
  rw [HNL.out]
  go_enter Try.func140, Try.ntmps140
  go_wp2_with fail
  go_loopw [8, 9] (fun i _ wr => ∃ q : Nat, 1 ≤ q ∧ q ≤ l.length ∧ i = .int .i64 q ∧ OwI wr W.heap.size (.slice (some ⟨g, 0, none⟩) l.length cp) (srd P l q) ∧ Ext W wr) (fun i _ _ => l.length - (intOf i).toNat)
  case atStart => exact ⟨1, Nat.le_refl _, h0, rfl, by rw [srd_one _ _ h0]; exact hv, hx⟩
  case round =>
    clear hv hx hgw
    obtain ⟨q, hq1, hq, rfl, hv, hx⟩ := hrel
    obtain ⟨wo, rfl⟩ : ∃ x : World, x = wr := ⟨_, rfl⟩
    by_cases hlt : q < l.length
    · rw [srt_start hlt] at hv
      have HAL := Lib.hid (acc_len (lt := P) (l := l) (i := q) (by omega))
      go_wp2_with fail
      go_loopw [9] (fun i wr => ∃ a : Nat, a ≤ q ∧ i = .int .i64 a ∧ OwI wr W.heap.size (.slice (some ⟨g, 0, none⟩) l.length cp) (srt P l q a) ∧ Hid (insPos P (l.getD q 0) (insAll P [] (l.take q)) (insAll P [] (l.take q)).length = insPos P (l.getD q 0) (insAll P [] (l.take q)) a) ∧ Ext W wr) (fun i _ => (intOf i).toNat)
      case atStart => exact ⟨q, Nat.le_refl _, rfl, hv, Lib.hid (by rw [HAL.out]), hx⟩
      case round =>
        clear hv hx
        obtain ⟨a, ha, rfl, hv, Hp, hx⟩ := hrel
        obtain ⟨w3, rfl⟩ : ∃ x : World, x = wr := ⟨_, rfl⟩
        have HSL := Lib.hid (srt_len (lt := P) hlt ha)
        rcases a with _ | a
        · have Hend := Lib.hid (srt_end (lt := P) (a := 0) hlt Hp.out)
          have hd0 : decide ((0 : Int) < ((0 : Nat) : Int)) = false := decide_eq_false (by omega)
          rw [Hend.out] at hv
          go_wp2_with fail
          refine rx_open [(true, 0, some 18, 512), (true, 0, some 19, 2), (true, 3, some 20, 786432), (true, 4, some 21, 1048576), (true, 8, some 22, 2097160), (true, 8, some 23, 2097153), (true, 8, some 24, 2097664), (true, 104, some 25, 27262976), (true, 136, some 26, 35651584), (true, 8, some 27, 2097153), (true, 8, some 28, 2097664), (true, 1032, some 29, 270532608), (true, 2568, some 30, 673185792), (true, 4104, some 31, 1075838976), (false, 8472, some 32, 2220883968), (true, 16392, some 33, 4297064448), (true, 32776, some 34, 8592031744)] 0 17 mixd rfl (by kernel_rfl) (by kernel_rfl) (by kernel_rfl) ?_
          refine rx_run (run := [0, 1, 2, 3, 4, 5, 6, 7, 8, 9, 10, 11, 12, 13]) (k := 3) (m' := 16383) rfl (by kernel_rfl) (by kernel_rfl) (by kernel_rfl) (fm_cons rfl <| fm_cons rfl <| fm_cons rfl <| fm_cons rfl <| fm_cons rfl <| fm_cons rfl <| fm_cons rfl <| fm_cons rfl <| fm_cons rfl <| fm_cons rfl <| fm_cons rfl <| fm_cons rfl <| fm_cons rfl <| fm_cons rfl <| List.filterMap_nil) (by repeat first | exact Ext.refl _ | assumption | refine Ext.drew ?_ | refine Ext.alloc ?_ _ | refine Ext.setCell ?_ (by simp) | refine Ext.setCell ?_ (by simp; omega) | refine Ext.trans ?_ (by assumption)) ?_
          repeat (go_big_quiet_step ((fail)))
          refine wpQuiet_nil ?_
          refine rx_op 14 (k := 2) (m' := 32767) rfl rfl (by kernel_rfl) (by kernel_rfl) ?_
          go_wp2_with (fail)
          refine rx_on (by repeat first | exact Ext.refl _ | assumption | refine Ext.drew ?_ | refine Ext.alloc ?_ _ | refine Ext.setCell ?_ (by simp) | refine Ext.setCell ?_ (by simp; omega) | refine Ext.trans ?_ (by assumption)) ?_
          refine rx_run (run := [15, 16]) (k := 0) (m' := 131071) rfl (by kernel_rfl) (by kernel_rfl) (by kernel_rfl) (fm_cons rfl <| fm_cons rfl <| List.filterMap_nil) (by repeat first | exact Ext.refl _ | assumption | refine Ext.drew ?_ | refine Ext.alloc ?_ _ | refine Ext.setCell ?_ (by simp) | refine Ext.setCell ?_ (by simp; omega) | refine Ext.trans ?_ (by assumption)) ?_
          repeat (go_big_quiet_step ((fail)))
          refine wpQuiet_nil ?_
          refine rx_end (by kernel_rfl) ?_
          go_wp2
          go_roundw
          case rel => exact ⟨q + 1, by omega, by omega, by go_num, hv.ext (by repeat first | exact Ext.refl _ | assumption | refine Ext.drew ?_ | refine Ext.alloc ?_ _ | refine Ext.setCell ?_ (by simp) | refine Ext.setCell ?_ (by simp; omega) | refine Ext.trans ?_ (by assumption)), hx.trans (by repeat first | exact Ext.refl _ | assumption | refine Ext.drew ?_ | refine Ext.alloc ?_ _ | refine Ext.setCell ?_ (by simp) | refine Ext.setCell ?_ (by simp; omega) | refine Ext.trans ?_ (by assumption))⟩
          case measure => first | (simp [intOf]; done) | (simp [intOf]; omega)
        · have c1 := (hv.cel (j := a) (by rw [HSL.out]; omega)).1
          have c2 := (hv.cel (j := a + 1) (by rw [HSL.out]; omega)).1
          have HA1 := Lib.hid (srt_before (lt := P) (a := a) hlt (by omega))
          have HA2 := Lib.hid (srt_at (lt := P) hlt ha)
          rw [HA1.out] at c1
          rw [HA2.out] at c2
          have HB : Hid (insPos P (l.getD q 0) (insAll P [] (l.take q)) (a + 1) = if P (l.getD q 0) ((insAll P [] (l.take q)).getD a 0) = true then insPos P (l.getD q 0) (insAll P [] (l.take q)) a else a + 1) := Lib.hid rfl
          have HED := Lib.hid (srt_end (lt := P) (a := a + 1) hlt)
          have HSW := Lib.hid (srt_swap (lt := P) (l := l) (i := q) (a := a) hlt (by omega))
          have hxm : l.getD q 0 < 2 * ls.length := HM.out _ (by rw [getD_at l hlt]; exact List.getElem_mem hlt)
          have hym : (insAll P [] (l.take q)).getD a 0 ∈ l.take q := by
            have := HAL.out
            rw [getD_at _ (by omega)]
            have h1 := List.getElem_mem (l := insAll P [] (l.take q)) (n := a) (by omega)
            rw [insAll_mem] at h1
            simpa using h1
          have hym2 : (insAll P [] (l.take q)).getD a 0 < 2 * ls.length := HM.out _ (List.mem_of_mem_take hym)
          have hne : l.getD q 0 ≠ (insAll P [] (l.take q)).getD a 0 := by
            intro e
            rw [← e, getD_at l hlt] at hym
            obtain ⟨i, hi, e2⟩ := List.getElem_of_mem hym
            rw [List.length_take] at hi
            rw [List.getElem_take] at e2
            exact (List.pairwise_iff_getElem.1 HN.out i q (by omega) hlt (by omega)) e2
          have HDx := Lib.hid (HD.out (l.getD q 0) ((insAll P [] (l.take q)).getD a 0))
          clear hym
          generalize l.getD q 0 = x at *
          generalize (insAll P [] (l.take q)).getD a 0 = y at *
          have hd0 : decide ((0 : Int) < ((a + 1 : Nat) : Int)) = true := decide_eq_true (by omega)
          have hj1 : IntKind.i64.wrap (((a + 1 : Nat) : Int) - 1) = (a : Int) := by rw [IntKind.wrap_i64]; omega
          have hj2 : IntKind.i64.wrap ((a : Int) + 1 - 1) = (a : Int) := by rw [IntKind.wrap_i64]; omega
          have hai : (a : Int) < l.length := by omega
          have hai1 : ((a + 1 : Nat) : Int) < l.length := by omega
          have d1 := cell_regrown c1
          have d2 := cell_regrown c2
          by_cases hp : P x y = true
          · have HDy := Lib.hid (HDx.out.trans (if_pos hp))
            have HPos : Hid (insPos P x (insAll P [] (l.take q)) (insAll P [] (l.take q)).length = insPos P x (insAll P [] (l.take q)) a) := Lib.hid (by rw [Hp.out, HB.out, if_pos hp])
            clear HDx hp Hp HB HED
            go_wp2_with fail
            refine rx_open [(true, 0, some 18, 512), (true, 0, some 19, 2), (true, 3, some 20, 786432), (true, 4, some 21, 1048576), (true, 8, some 22, 2097160), (true, 8, some 23, 2097153), (true, 8, some 24, 2097664), (true, 104, some 25, 27262976), (true, 136, some 26, 35651584), (true, 8, some 27, 2097153), (true, 8, some 28, 2097664), (true, 1032, some 29, 270532608), (true, 2568, some 30, 673185792), (true, 4104, some 31, 1075838976), (false, 8472, some 32, 2220883968), (true, 16392, some 33, 4297064448), (true, 32776, some 34, 8592031744)] 0 17 mixd rfl (by kernel_rfl) (by kernel_rfl) (by kernel_rfl) ?_
            refine rx_run (run := [0, 1, 2, 3, 4, 5, 6, 7, 8, 9, 10, 11, 12, 13]) (k := 3) (m' := 16383) rfl (by kernel_rfl) (by kernel_rfl) (by kernel_rfl) (fm_cons rfl <| fm_cons rfl <| fm_cons rfl <| fm_cons rfl <| fm_cons rfl <| fm_cons rfl <| fm_cons rfl <| fm_cons rfl <| fm_cons rfl <| fm_cons rfl <| fm_cons rfl <| fm_cons rfl <| fm_cons rfl <| fm_cons rfl <| List.filterMap_nil) (by repeat first | exact Ext.refl _ | assumption | refine Ext.drew ?_ | refine Ext.alloc ?_ _ | refine Ext.setCell ?_ (by simp) | refine Ext.setCell ?_ (by simp; omega) | refine Ext.trans ?_ (by assumption)) ?_
            repeat (go_big_quiet_step ((fail)))
            refine wpQuiet_nil ?_
            refine rx_op 14 (k := 2) (m' := 32767) rfl rfl (by kernel_rfl) (by kernel_rfl) ?_
            go_wp2_with ((go_at_call 117; refine (cmp_c gw gk A B c d ns ls k x y _ (h.ext (hx.trans (by repeat first | exact Ext.refl _ | assumption | refine Ext.drew ?_ | refine Ext.alloc ?_ _ | refine Ext.setCell ?_ (by simp) | refine Ext.setCell ?_ (by simp; omega) | refine Ext.trans ?_ (by assumption)))) HW.out hk hxm hym2 hne ((hx.trans (by repeat first | exact Ext.refl _ | assumption | refine Ext.drew ?_ | refine Ext.alloc ?_ _ | refine Ext.setCell ?_ (by simp) | refine Ext.setCell ?_ (by simp; omega) | refine Ext.trans ?_ (by assumption))).lit k0) ((hx.trans (by repeat first | exact Ext.refl _ | assumption | refine Ext.drew ?_ | refine Ext.alloc ?_ _ | refine Ext.setCell ?_ (by simp) | refine Ext.setCell ?_ (by simp; omega) | refine Ext.trans ?_ (by assumption))).lit k1) ((hx.trans (by repeat first | exact Ext.refl _ | assumption | refine Ext.drew ?_ | refine Ext.alloc ?_ _ | refine Ext.setCell ?_ (by simp) | refine Ext.setCell ?_ (by simp; omega) | refine Ext.trans ?_ (by assumption))).lit kk)).mono ?_; rw [HDy.out]; rintro e w6 ⟨rfl, hb6⟩))
            refine rx_on (by repeat first | exact Ext.refl _ | assumption | refine Ext.drew ?_ | refine Ext.alloc ?_ _ | refine Ext.setCell ?_ (by simp) | refine Ext.setCell ?_ (by simp; omega) | refine Ext.trans ?_ (by assumption)) ?_
            refine rx_run (run := [15, 16]) (k := 0) (m' := 131071) rfl (by kernel_rfl) (by kernel_rfl) (by kernel_rfl) (fm_cons rfl <| fm_cons rfl <| List.filterMap_nil) (by repeat first | exact Ext.refl _ | assumption | refine Ext.drew ?_ | refine Ext.alloc ?_ _ | refine Ext.setCell ?_ (by simp) | refine Ext.setCell ?_ (by simp; omega) | refine Ext.trans ?_ (by assumption)) ?_
            repeat (go_big_quiet_step ((fail)))
            refine wpQuiet_nil ?_
            refine rx_end (by kernel_rfl) ?_
            have hx6 : Ext w3 w6 := (by repeat first | exact Ext.refl _ | assumption | refine Ext.drew ?_ | refine Ext.alloc ?_ _ | refine Ext.setCell ?_ (by simp) | refine Ext.setCell ?_ (by simp; omega) | refine Ext.trans ?_ (by assumption))
            have hx := hx.trans hx6
            have hv := hv.ext hx6
            obtain ⟨c1, y1⟩ := hv.cel (j := a) (by rw [HSL.out]; omega)
            obtain ⟨c2, y2⟩ := hv.cel (j := a + 1) (by rw [HSL.out]; omega)
            rw [HA1.out] at c1
            rw [HA2.out] at c2
            have d1 := cell_regrown c1
            have d2 := cell_regrown c2
            clear hb6 hx6
            have hset := ((hv.ext (Ext.drew (Ext.refl w6))).set_ HSL.out.symm (a + 1) (y : Int)).set_ (by rw [List.length_set, HSL.out]) a (x : Int)
            rw [HSW.out] at hset
            have Hset := Lib.hid hset
            clear hset hv
            go_wp2_with fail
            refine Fr.rx_open [(true, 0, some 37, 1), (true, 0, some 38, 512), (true, 0, some 39, 1), (true, 0, some 40, 512), (true, 8, some 41, 1099511627776), (true, 0, some 42, 1), (true, 0, some 43, 512), (true, 64, some 44, 8796093022208), (true, 160, some 45, 21990232555520), (true, 256, some 46, 35184372088832), (true, 0, some 47, 1), (true, 0, some 48, 512), (true, 3072, some 49, 422212465065984), (true, 4096, some 50, 562949953421312), (true, 9187, some 51, 412316860416), (false, 25571, none, 2322168557862912), (true, 65535, some 52, 2748779069440), (false, 131071, none, 5629499534213120)] 9527906273786276976974489008089510150144 18 mixd rfl (by kernel_rfl) (by kernel_rfl) (by kernel_rfl) ?_
            refine Fr.rx_free (run := [2, 3, 4]) (k := 15) (m' := 28) rfl (by kernel_rfl) (by kernel_rfl) (fm_cons rfl <| fm_cons rfl <| fm_cons rfl <| List.filterMap_nil) ?_
            repeat (go_big_quiet_step ((fail)))
            refine wpQuiet_nil ?_
            refine Fr.rx_run (run := [0, 1, 5, 6, 7, 8, 9, 10, 11, 12, 13, 14]) (k := 3) (m' := 32767) rfl (by kernel_rfl) (by kernel_rfl) (by kernel_rfl) (fm_cons rfl <| fm_cons rfl <| fm_cons rfl <| fm_cons rfl <| fm_cons rfl <| fm_cons rfl <| fm_cons rfl <| fm_cons rfl <| fm_cons rfl <| fm_cons rfl <| fm_cons rfl <| fm_cons rfl <| List.filterMap_nil) (by repeat first | exact Ext.refl _ | assumption | refine Ext.drew ?_ | refine Ext.alloc ?_ _ | refine Ext.setCell ?_ (by simp) | refine Ext.setCell ?_ (by simp; omega) | refine Ext.trans ?_ (by assumption)) ?_
            repeat (go_big_quiet_step ((fail)))
            refine wpQuiet_nil ?_
            refine Fr.rx_op 15 (k := 2) (m' := 65535) rfl rfl (by kernel_rfl) (by kernel_rfl) ?_
            go_wp2
            refine Fr.rx_lst (by decide) ?_
            refine Fr.rx_op 16 (k := 1) (m' := 131071) rfl rfl (by kernel_rfl) (by kernel_rfl) ?_
            go_wp2
            refine Fr.rx_lst (by decide) ?_
            refine Fr.rx_op 17 (k := 0) (m' := 262143) rfl rfl (by kernel_rfl) (by kernel_rfl) ?_
            go_wp2
            refine Fr.rx_lst (by decide) ?_
            refine Fr.rx_end (by kernel_rfl) ?_
            go_wp2
            go_roundw
            case rel => exact ⟨a, by omega, by go_num, Hset.out, HPos, ((hx.trans (Ext.drew (Ext.refl w6))).setCell (by simpa using hgB)).setCell (by simpa using hgB)⟩
            case measure => first | (simp [intOf]; done) | (simp [intOf]; omega)
          · have HDy := Lib.hid (HDx.out.trans (if_neg hp))
            have Hend := Lib.hid (HED.out (by rw [Hp.out, HB.out, if_neg hp]))
            clear HDx hp Hp HB HED
            go_wp2_with fail
            refine rx_open [(true, 0, some 18, 512), (true, 0, some 19, 2), (true, 3, some 20, 786432), (true, 4, some 21, 1048576), (true, 8, some 22, 2097160), (true, 8, some 23, 2097153), (true, 8, some 24, 2097664), (true, 104, some 25, 27262976), (true, 136, some 26, 35651584), (true, 8, some 27, 2097153), (true, 8, some 28, 2097664), (true, 1032, some 29, 270532608), (true, 2568, some 30, 673185792), (true, 4104, some 31, 1075838976), (false, 8472, some 32, 2220883968), (true, 16392, some 33, 4297064448), (true, 32776, some 34, 8592031744)] 0 17 mixd rfl (by kernel_rfl) (by kernel_rfl) (by kernel_rfl) ?_
            refine rx_run (run := [0, 1, 2, 3, 4, 5, 6, 7, 8, 9, 10, 11, 12, 13]) (k := 3) (m' := 16383) rfl (by kernel_rfl) (by kernel_rfl) (by kernel_rfl) (fm_cons rfl <| fm_cons rfl <| fm_cons rfl <| fm_cons rfl <| fm_cons rfl <| fm_cons rfl <| fm_cons rfl <| fm_cons rfl <| fm_cons rfl <| fm_cons rfl <| fm_cons rfl <| fm_cons rfl <| fm_cons rfl <| fm_cons rfl <| List.filterMap_nil) (by repeat first | exact Ext.refl _ | assumption | refine Ext.drew ?_ | refine Ext.alloc ?_ _ | refine Ext.setCell ?_ (by simp) | refine Ext.setCell ?_ (by simp; omega) | refine Ext.trans ?_ (by assumption)) ?_
            repeat (go_big_quiet_step ((fail)))
            refine wpQuiet_nil ?_
            refine rx_op 14 (k := 2) (m' := 32767) rfl rfl (by kernel_rfl) (by kernel_rfl) ?_
            go_wp2_with ((go_at_call 117; refine (cmp_c gw gk A B c d ns ls k x y _ (h.ext (hx.trans (by repeat first | exact Ext.refl _ | assumption | refine Ext.drew ?_ | refine Ext.alloc ?_ _ | refine Ext.setCell ?_ (by simp) | refine Ext.setCell ?_ (by simp; omega) | refine Ext.trans ?_ (by assumption)))) HW.out hk hxm hym2 hne ((hx.trans (by repeat first | exact Ext.refl _ | assumption | refine Ext.drew ?_ | refine Ext.alloc ?_ _ | refine Ext.setCell ?_ (by simp) | refine Ext.setCell ?_ (by simp; omega) | refine Ext.trans ?_ (by assumption))).lit k0) ((hx.trans (by repeat first | exact Ext.refl _ | assumption | refine Ext.drew ?_ | refine Ext.alloc ?_ _ | refine Ext.setCell ?_ (by simp) | refine Ext.setCell ?_ (by simp; omega) | refine Ext.trans ?_ (by assumption))).lit k1) ((hx.trans (by repeat first | exact Ext.refl _ | assumption | refine Ext.drew ?_ | refine Ext.alloc ?_ _ | refine Ext.setCell ?_ (by simp) | refine Ext.setCell ?_ (by simp; omega) | refine Ext.trans ?_ (by assumption))).lit kk)).mono ?_; rw [HDy.out]; rintro e w6 ⟨rfl, hb6⟩))
            refine rx_on (by repeat first | exact Ext.refl _ | assumption | refine Ext.drew ?_ | refine Ext.alloc ?_ _ | refine Ext.setCell ?_ (by simp) | refine Ext.setCell ?_ (by simp; omega) | refine Ext.trans ?_ (by assumption)) ?_
            refine rx_run (run := [15, 16]) (k := 0) (m' := 131071) rfl (by kernel_rfl) (by kernel_rfl) (by kernel_rfl) (fm_cons rfl <| fm_cons rfl <| List.filterMap_nil) (by repeat first | exact Ext.refl _ | assumption | refine Ext.drew ?_ | refine Ext.alloc ?_ _ | refine Ext.setCell ?_ (by simp) | refine Ext.setCell ?_ (by simp; omega) | refine Ext.trans ?_ (by assumption)) ?_
            repeat (go_big_quiet_step ((fail)))
            refine wpQuiet_nil ?_
            refine rx_end (by kernel_rfl) ?_
            go_wp2
            rw [Hend.out] at hv
            go_roundw
            case rel => exact ⟨q + 1, by omega, by omega, by go_num, hv.ext (by repeat first | exact Ext.refl _ | assumption | refine Ext.drew ?_ | refine Ext.alloc ?_ _ | refine Ext.setCell ?_ (by simp) | refine Ext.setCell ?_ (by simp; omega) | refine Ext.trans ?_ (by assumption)), hx.trans (by repeat first | exact Ext.refl _ | assumption | refine Ext.drew ?_ | refine Ext.alloc ?_ _ | refine Ext.setCell ?_ (by simp) | refine Ext.setCell ?_ (by simp; omega) | refine Ext.trans ?_ (by assumption))⟩
            case measure => first | (simp [intOf]; done) | (simp [intOf]; omega)
    · obtain rfl : q = l.length := by omega
      rw [srd_all] at hv
      go_wp2
      go_end0
      exact ⟨⟨_, rfl⟩, hv, hx⟩
end Go.Proofs.Ytdhmjhoaegdfjaa
