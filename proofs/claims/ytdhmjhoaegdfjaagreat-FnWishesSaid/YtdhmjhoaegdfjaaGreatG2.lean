import Derived.Test.YtdhmjhoaegdfjaaGreatChecked
import Derived.Test.YtdhmjhoaegdfjaaGreatG1
import Derived.Outline
import Derived.Deep.QuietTactic
import Derived.BigQuiet
import Derived.WalkLawsBesides
import Derived.WalkSpells
import Derived.Deep.RegionHeld3
import Derived.Lib.Hide
import Derived.Deep.DeepCutAuto
namespace Go.Proofs.YtdhmjhoaegdfjaaGreat
open Go.RowKit

@[go_sem] theorem eqgN : Tryz.prog.eqGuardType Tryz.prog.depth 79 = false := by kernel_rfl
@[go_sem] theorem sihN : Tryz.prog.stoodInHeld 79 = false := by kernel_rfl

/-- two pairs are the same -/
def peq (p q : Int × Int) : Bool := decide (p.1 = q.1) && decide (p.2 = q.2)
theorem peq_iff {p q : Int × Int} : peq p q = true ↔ p = q := by
  obtain ⟨a, b⟩ := p; obtain ⟨c, d⟩ := q
  simp [peq]
theorem peq_no {p q : Int × Int} : peq p q = false ↔ p ≠ q := by rw [← Bool.not_eq_true, peq_iff]
theorem eqFN (x y x' y' : Int) (w : World) : (Op.equalIn 10000 79 (.agg #[.int .i64 x, .int .i64 y]) (.agg #[.int .i64 x', .int .i64 y'])).run Tryz.prog w = .ok (peq (x, y) (x', y')) w := by
  unfold peq
  by_cases h1 : x = x' <;> by_cases h2 : y = y' <;> simp [go_sem, h1, h2]
@[go_sem ↓] theorem eqlN (x y x' y' : Int) (w : World) : (binOp .eql 79 (.agg #[.int .i64 x, .int .i64 y]) (.agg #[.int .i64 x', .int .i64 y'])).run Tryz.prog w = .ok (.bool (peq (x, y) (x', y'))) w := by
  rw [run_eql_struct, eqFN]; rfl
@[go_sem ↓] theorem neqN (x y x' y' : Int) (w : World) : (binOp .neq 79 (.agg #[.int .i64 x, .int .i64 y]) (.agg #[.int .i64 x', .int .i64 y'])).run Tryz.prog w = .ok (.bool (!(peq (x, y) (x', y')))) w := by
  rw [run_neq_struct, eqFN]; rfl
def imin (a b : Int) : Int := min a b
def imax (a b : Int) : Int := max a b
@[go_sem ↓] theorem min_run (ty : TypeId) (ats : Array TypeId) (a b : Int) (w : World) : (Builtin.min_ ats ty #[.int .i64 a, .int .i64 b]).run Tryz.prog w = .ok (.int .i64 (imin a b)) w := by
  have h : (if b < a then b else a) = min a b := by rw [Int.min_def]; split <;> split <;> omega
  simp [Builtin.min_, Builtin.min2, imin, h]
@[go_sem ↓] theorem max_run (ty : TypeId) (ats : Array TypeId) (a b : Int) (w : World) : (Builtin.max_ ats ty #[.int .i64 a, .int .i64 b]).run Tryz.prog w = .ok (.int .i64 (imax a b)) w := by
  have h : (if a < b then b else a) = max a b := by rw [Int.max_def]; split <;> split <;> omega
  simp [Builtin.max_, Builtin.max2, imax, h]

def wi (n lo hi : Int) : Bool := decide (lo ≤ n) && decide (n ≤ hi)

set_option maxHeartbeats 400000 in
theorem within_c (n lo hi : Int) (w : World) : Calls Tryz.prog 31 #[.int .i64 n, .int .i64 lo, .int .i64 hi] w fun e w' => e = .returned (.bool (wi n lo hi)) ∧ w = w' := by
  by_cases h : lo ≤ n
  all_goals
    go_enter Tryz.func31, Tryz.ntmps31
    go_wp2
    go_ret
    exact ⟨ret_b (by simp [wi]; omega), rfl⟩

set_option maxHeartbeats 400000 in
theorem l01In_c (n lo hi : Int) (w : World) : Calls Tryz.prog 28 #[.int .i64 n, .int .i64 lo, .int .i64 hi] w fun e w' => e = .returned (.bool (wi n lo hi)) ∧ w = w' := by
  by_cases h : lo ≤ n
  all_goals
    go_enter Tryz.func28, Tryz.ntmps28
    go_wp2
    go_ret
    exact ⟨ret_b (by simp [wi]; omega), rfl⟩

def nok (p : Int × Int) : Bool := wi p.1 0 20 && wi p.2 0 20

set_option maxHeartbeats 400000 in
theorem NodeOk_i (x y : Int) (w : World) : Calls Tryz.prog 92 #[.agg #[.int .i64 x, .int .i64 y]] w fun e w' => e = .returned (.bool (nok (x, y))) ∧ Ext w w' := by
  go_enter Tryz.func92, Tryz.ntmps92
  go_wp2_with (go_at_call 31; refine (within_c _ _ _ _).mono ?_; rintro e w' ⟨rfl, rfl⟩)
  all_goals
    go_ret
    exact ⟨ret_b (by simp [nok, *]), (Ext.refl _).alloc _⟩

set_option maxHeartbeats 400000 in
theorem NodeOk_s (x y : Int) (w : World) : Calls Tryz.prog 69 #[.agg #[.int .i64 x, .int .i64 y]] w fun e w' => e = .returned (.bool (nok (x, y))) ∧ Ext w w' := by
  go_enter Tryz.func69, Tryz.ntmps69
  go_wp2_with (go_at_call 28; refine (l01In_c _ _ _ _).mono ?_; rintro e w' ⟨rfl, rfl⟩)
  all_goals
    go_ret
    exact ⟨ret_b (by simp [nok, *]), (Ext.refl _).alloc _⟩

set_option maxHeartbeats 400000 in
theorem nodesOk_c (A : Option Addr) (c : Nat) (l : List (Int × Int)) (w : World) (hl : l.length ≤ 2000000) (h : Pr w w.heap.size A l) :
    Calls Tryz.prog 75 #[.slice A l.length c] w fun e w' => e = .returned (.bool (l.all nok)) ∧ Ext w w' := by
  go_enter Tryz.func75, Tryz.ntmps75
  go_wp2
  go_loopw [7] (fun i wr => ∃ k : Nat, k ≤ l.length ∧ i = .int .i64 k ∧ (l.take k).all nok = true ∧ Ext w wr) (fun i _ => l.length - (intOf i).toNat)
  case atStart => exact ⟨0, by omega, rfl, rfl, Ext.refl _⟩
  case round =>
    obtain ⟨k, hk, rfl, hall, hb⟩ := hrel
    by_cases hlt : k < l.length
    · obtain ⟨b, off, rfl, hbb, h1, h2⟩ := (h.below hb).at_ hlt
      go_wp2_with (go_at_call 92; refine (NodeOk_i _ _ _).mono ?_; rintro e w1 ⟨rfl, hb1⟩)
      · have hno : nok l[k] = false := by simp_all
        go_ret
        exact ⟨ret_b (by symm; rw [Bool.eq_false_iff]; intro hc; rw [List.all_eq_true] at hc; have := hc _ (List.getElem_mem hlt); rw [hno] at this; cases this), (hb.alloc _).trans hb1⟩
      · have hyes : nok l[k] = true := by simp_all
        go_roundw
        case rel => exact ⟨k + 1, by omega, by go_num, by rw [List.take_succ_eq_append_getElem hlt, List.all_append, hall]; simp [hyes], (hb.alloc _).trans hb1⟩
        case measure => simp [intOf]; omega
    · go_wp2
      go_ret
      exact ⟨ret_b (by rw [List.take_of_length_le (by omega)] at hall; exact hall.symm), hb⟩
end Go.Proofs.YtdhmjhoaegdfjaaGreat

namespace Go.Proofs.YtdhmjhoaegdfjaaGreat
open Go.RowKit

abbrev P2 := Int × Int
theorem nodesOk3 (a b c : P2) (g : Nat) (w : World) (h : w.heap[g]? = some (.cells #[.int .i64 a.1, .int .i64 a.2, .int .i64 b.1, .int .i64 b.2, .int .i64 c.1, .int .i64 c.2] 79 (0, 0))) :
    Calls Tryz.prog 75 #[.slice (some ⟨g, 0, none⟩) 3 3] w fun e w' => e = .returned (.bool (nok a && nok b && nok c)) ∧ Ext w w' := by
  have hg : g < w.heap.size := by
    rcases Nat.lt_or_ge g w.heap.size with h' | h'
    · exact h'
    · rw [Array.getElem?_eq_none h'] at h; cases h
  have := nodesOk_c (some ⟨g, 0, none⟩) 3 [a, b, c] w (by simp) ⟨rfl, fun _ => ⟨g, 0, rfl, hg, fun j u hu => by
    rw [cell_of_row w g (0 + j) _ _ _ h]; simpa [pc] using hu⟩⟩
  simpa [Bool.and_assoc] using this

def turn (a b c : P2) : Int := if nok a && nok b && nok c then (b.1 - a.1) * (c.2 - a.2) - (b.2 - a.2) * (c.1 - a.1) else 0

theorem nok_bd {a : P2} (h : nok a = true) : 0 ≤ a.1 ∧ a.1 ≤ 20 ∧ 0 ≤ a.2 ∧ a.2 ≤ 20 := by
  simp [nok, wi] at h; omega
theorem mul_bd {x y : Int} (h1 : -20 ≤ x) (h2 : x ≤ 20) (h3 : -20 ≤ y) (h4 : y ≤ 20) : -400 ≤ x * y ∧ x * y ≤ 400 := by
  have := Int.mul_nonneg (show 0 ≤ 20 - x by omega) (show 0 ≤ 20 - y by omega)
  have := Int.mul_nonneg (show 0 ≤ 20 + x by omega) (show 0 ≤ 20 - y by omega)
  have := Int.mul_nonneg (show 0 ≤ 20 - x by omega) (show 0 ≤ 20 + y by omega)
  have := Int.mul_nonneg (show 0 ≤ 20 + x by omega) (show 0 ≤ 20 + y by omega)
  simp only [Int.sub_mul, Int.add_mul, Int.mul_sub, Int.mul_add] at *
  omega

set_option maxHeartbeats 1000000 in
theorem TurnOf_i (a b c : P2) (w : World) :
    Calls Tryz.prog 95 #[pv a, pv b, pv c] w fun e w' => e = .returned (.int .i64 (turn a b c)) ∧ Ext w w' := by
  obtain ⟨ax, ay⟩ := a
  obtain ⟨bx, by'⟩ := b
  obtain ⟨cx, cy⟩ := c
  unfold pv
  by_cases hn : (nok (ax, ay) && nok (bx, by') && nok (cx, cy)) = true
  · obtain ⟨⟨n1, n2⟩, n3⟩ : (nok (ax, ay) = true ∧ nok (bx, by') = true) ∧ nok (cx, cy) = true := by simpa using hn
    have b1 := nok_bd n1
    have b2 := nok_bd n2
    have b3 := nok_bd n3
    have m1 := mul_bd (x := bx - ax) (y := cy - ay) (by simp at *; omega) (by simp at *; omega) (by simp at *; omega) (by simp at *; omega)
    have m2 := mul_bd (x := by' - ay) (y := cx - ax) (by simp at *; omega) (by simp at *; omega) (by simp at *; omega) (by simp at *; omega)
    go_enter Tryz.func95, Tryz.ntmps95
    go_wp2_with fail
    refine (nodesOk3 (ax, ay) (bx, by') (cx, cy) _ _ (heap_new _ (by simp))).mono ?_
    rintro e w1 ⟨rfl, hb⟩
    have h1 := Ext.cell hb
    go_wp2
    go_ret
    exact ⟨ret_i (by simp [turn, n1, n2, n3]), ((((Ext.refl w).alloc _).alloc _).alloc _).alloc _ |>.trans hb⟩
  · go_enter Tryz.func95, Tryz.ntmps95
    go_wp2_with fail
    refine (nodesOk3 (ax, ay) (bx, by') (cx, cy) _ _ (heap_new _ (by simp))).mono ?_
    rintro e w1 ⟨rfl, hb⟩
    have h1 := Ext.cell hb
    have hn' := eq_false_of_ne_true hn
    rw [hn']
    go_wp2
    go_ret
    exact ⟨ret_i (by simp only [turn, hn', Bool.false_eq_true, if_false]), ((((Ext.refl w).alloc _).alloc _).alloc _).alloc _ |>.trans hb⟩
theorem TurnOf_i' (ax ay bx by' cx cy : Int) (w : World) : Calls Tryz.prog 95 #[.agg #[.int .i64 ax, .int .i64 ay], .agg #[.int .i64 bx, .int .i64 by'], .agg #[.int .i64 cx, .int .i64 cy]] w
    fun e w' => e = .returned (.int .i64 (turn (ax, ay) (bx, by') (cx, cy))) ∧ Ext w w' := TurnOf_i (ax, ay) (bx, by') (cx, cy) w
end Go.Proofs.YtdhmjhoaegdfjaaGreat

namespace Go.Proofs.YtdhmjhoaegdfjaaGreat
open Go.RowKit Go.Sort Go.BigFrame
def gp (l : List (Int × Int)) (i : Int) : Int × Int := l.getD i.toNat (0, 0)
/-- a lead that is right for the nodes -/
def lok (ns : List (Int × Int)) (l : Int × Int) : Bool := decide (0 ≤ l.1) && decide (l.1 < l.2) && decide (l.2 < ns.length) && nok (gp ns l.1) && nok (gp ns l.2) && decide (gp ns l.1 ≠ gp ns l.2)

theorem nodesOk2 (a b : P2) (g : Nat) (w : World) (h : w.heap[g]? = some (.cells #[.int .i64 a.1, .int .i64 a.2, .int .i64 b.1, .int .i64 b.2] 79 (0, 0))) :
    Calls Tryz.prog 75 #[.slice (some ⟨g, 0, none⟩) 2 2] w fun e w' => e = .returned (.bool (nok a && nok b)) ∧ Ext w w' := by
  have hg : g < w.heap.size := by
    rcases Nat.lt_or_ge g w.heap.size with h' | h'
    · exact h'
    · rw [Array.getElem?_eq_none h'] at h; cases h
  have := nodesOk_c (some ⟨g, 0, none⟩) 2 [a, b] w (by simp) ⟨rfl, fun _ => ⟨g, 0, rfl, hg, fun j u hu => by
    rw [cell_of_row w g (0 + j) _ _ _ h]; simpa [pc] using hu⟩⟩
  simpa [Bool.and_assoc] using this



theorem rg_b {P : Program} {f : FuncId} {args : Array Value} {w : World} {d : Nat} {os : Array Obj} {b b' : Bool} (hb : b = b')
    (h : Calls P f args (grow (redrawn w d) os) fun e w' => e = .returned (.bool b) ∧ Ext (grow (redrawn w d) os) w') : Calls P f args (grow (redrawn w d) os) fun e w'' => e = .returned (.bool b') ∧ ∃ p : Regrown, w'' = grow (redrawn w p.d) p.os := by
  subst hb; exact Calls.regrown_of h

theorem gp_nat (l : List P2) (k : Nat) (h : k < l.length) : gp l k = l[k] := by simp [gp, h]
theorem lok_no1 {ns : List P2} {p q : Int} (h : ¬ 0 ≤ p) : lok ns (p, q) = false := by simp [lok, h]
theorem lok_no2 {ns : List P2} {p q : Int} (h : ¬ p < q) : lok ns (p, q) = false := by simp [lok, h]
theorem lok_no3 {ns : List P2} {p q : Int} (h : ¬ q < ns.length) : lok ns (p, q) = false := by simp [lok, h]
theorem lok_no4 {ns : List P2} {p q : Nat} (hp : p < ns.length) (hq : q < ns.length) (h : (nok ns[p] && nok ns[q]) = false) : lok ns (p, q) = false := by
  simp only [lok, gp_nat _ _ hp, gp_nat _ _ hq, Bool.and_assoc]
  rw [← Bool.and_assoc (nok _)]
  simp [h]
theorem lok_yes {ns : List P2} {p q : Nat} (hp : p < ns.length) (hq : q < ns.length) (hpq : (p : Int) < q) (h : (nok ns[p] && nok ns[q]) = true) : lok ns (p, q) = !(peq (ns[p].1, ns[p].2) (ns[q].1, ns[q].2)) := by
  have h' : nok ns[p] = true ∧ nok ns[q] = true := by simpa using h
  have h2 : (q : Int) < ns.length := by omega
  have h1 : (0 : Int) ≤ p := by omega
  simp only [lok, gp_nat _ _ hp, gp_nat _ _ hq, h'.1, h'.2, hpq, h2, h1, decide_true, Bool.and_true, Bool.true_and]
  by_cases e1 : ns[p].1 = ns[q].1 <;> by_cases e2 : ns[p].2 = ns[q].2 <;> simp [Prod.ext_iff, e1, e2, peq]

set_option maxRecDepth 100000 in
set_option maxHeartbeats 1000000 in
theorem LeadOk_i_no (A : Option Addr) (c : Nat) (ns : List (Int × Int)) (p q : Int) (w : World) (h : ¬ (0 ≤ p ∧ p < q ∧ q < ns.length)) :
    Calls Tryz.prog 77 #[.slice A ns.length c, .agg #[.int .i64 p, .int .i64 q]] w fun e w' => e = .returned (.bool (lok ns (p, q))) ∧ Ext w w' := by
  by_cases h1 : 0 ≤ p
  · by_cases h2 : p < q
    · have h3 : ¬ q < ns.length := fun h3 => h ⟨h1, h2, h3⟩
      have hv := lok_no3 (p := p) h3
      have g3 : decide (q < (ns.length : Int)) = false := decide_eq_false h3
      clear h
      go_enter Tryz.func77, Tryz.ntmps77
      go_wp2_with fail
      obtain ⟨W, hW⟩ : ∃ W, w.alloc (Obj.cells #[Value.int IntKind.i64 p, Value.int IntKind.i64 q] 81) = W := ⟨_, rfl⟩
      have d5 := cell_regrown (show W.cell? ⟨w.heap.size, 0, none⟩ = some (.int .i64 p) by rw [← hW, World.cell?_alloc_at _ _ _ _ rfl]; rfl)
      have d6 := cell_regrown (show W.cell? ⟨w.heap.size, 1, none⟩ = some (.int .i64 q) by rw [← hW, World.cell?_alloc_at _ _ _ _ rfl]; rfl)
      have hwW : Ext w W := by rw [← hW]; exact (Ext.refl _).alloc _
      rw [hW]
      clear hW
      refine rx_open [(true, 0, some 5, 8), (true, 1, some 6, 32), (true, 2, some 7, 64), (true, 4, some 8, 128), (true, 8, some 9, 264), (true, 24, some 10, 768), (true, 8, some 11, 264), (true, 72, some 12, 2304), (true, 168, some 13, 5376), (true, 264, some 14, 8448), (true, 520, some 15, 16384), (true, 1024, some 16, 32776), (true, 3072, some 17, 98304), (true, 1024, some 18, 32769), (true, 9216, some 19, 294912), (true, 21504, some 20, 688128), (true, 33792, some 21, 1081344), (true, 66560, some 22, 2097152), (true, 131072, some 23, 4194305), (true, 131072, some 24, 4194312), (true, 655360, some 25, 20971520), (true, 1441792, some 26, 46137344), (true, 2228224, some 27, 71303168), (true, 131072, some 28, 4194305), (true, 131072, some 29, 4194312), (true, 16908288, some 30, 541065216), (true, 42074112, some 31, 1346371584), (true, 67239936, some 32, 2151677952), (false, 138543104, some 33, 4433379328), (false, 268566528, some 34, 8594128896), (true, 537001984, some 35, 17184063488), (true, 1610612736, some 36, 34359738368), (true, 2147483648, some 37, 68719476737), (true, 2147483648, some 38, 68719476744), (true, 10737418240, some 39, 343597383680), (true, 23622320128, some 40, 755914244096), (true, 36507222016, some 41, 1168231104512), (true, 2147483648, some 42, 68719476737), (true, 2147483648, some 43, 68719476744), (true, 277025390592, some 44, 8864812498944), (true, 689342251008, some 45, 22058952032256), (true, 1101659111424, some 46, 35253091565568), (true, 2269890215936, some 47, 72636486909952), (true, 4400193994752, some 48, 140806207832064), (true, 17592186044415, some 4, 281474976710656)] 0 45 mixd rfl (by kernel_rfl) (by kernel_rfl) (by kernel_rfl) ?_
      refine rx_run (run := [0, 1, 2, 3, 4, 5, 6, 7, 8, 9, 10, 11, 12, 13, 14, 15, 16, 17, 18, 19, 20, 21, 22, 23, 24, 25, 26, 27]) (k := 17) (m' := 268435455) rfl (by kernel_rfl) (by kernel_rfl) (by kernel_rfl) (fm_cons rfl <| fm_cons rfl <| fm_cons rfl <| fm_cons rfl <| fm_cons rfl <| fm_cons rfl <| fm_cons rfl <| fm_cons rfl <| fm_cons rfl <| fm_cons rfl <| fm_cons rfl <| fm_cons rfl <| fm_cons rfl <| fm_cons rfl <| fm_cons rfl <| fm_cons rfl <| fm_cons rfl <| fm_cons rfl <| fm_cons rfl <| fm_cons rfl <| fm_cons rfl <| fm_cons rfl <| fm_cons rfl <| fm_cons rfl <| fm_cons rfl <| fm_cons rfl <| fm_cons rfl <| fm_cons rfl <| List.filterMap_nil) (by repeat first | exact Ext.refl _ | assumption | refine Ext.drew ?_ | refine Ext.alloc ?_ _ | refine Ext.setCell ?_ (by simp) | refine Ext.setCell ?_ (by simp; omega) | refine Ext.trans ?_ (by assumption)) ?_
      repeat (go_big_quiet_step ((fail)))
      refine wpQuiet_nil ?_
      refine rx_op 28 (k := 16) (m' := 536870911) rfl rfl (by kernel_rfl) (by kernel_rfl) ?_
      go_wp2
      refine rx_on (by repeat first | exact Ext.refl _ | assumption | refine Ext.drew ?_ | refine Ext.alloc ?_ _ | refine Ext.setCell ?_ (by simp) | refine Ext.setCell ?_ (by simp; omega) | refine Ext.trans ?_ (by assumption)) ?_
      refine rx_op 29 (k := 15) (m' := 1073741823) rfl rfl (by kernel_rfl) (by kernel_rfl) ?_
      go_wp2_with (fail)
      refine rx_on (by repeat first | exact Ext.refl _ | assumption | refine Ext.drew ?_ | refine Ext.alloc ?_ _ | refine Ext.setCell ?_ (by simp) | refine Ext.setCell ?_ (by simp; omega) | refine Ext.trans ?_ (by assumption)) ?_
      refine rx_run (run := [30, 31, 32, 33, 34, 35, 36, 37, 38, 39, 40, 41, 42, 43, 44]) (k := 0) (m' := 35184372088831) rfl (by kernel_rfl) (by kernel_rfl) (by kernel_rfl) (fm_cons rfl <| fm_cons rfl <| fm_cons rfl <| fm_cons rfl <| fm_cons rfl <| fm_cons rfl <| fm_cons rfl <| fm_cons rfl <| fm_cons rfl <| fm_cons rfl <| fm_cons rfl <| fm_cons rfl <| fm_cons rfl <| fm_cons rfl <| fm_cons rfl <| List.filterMap_nil) (by repeat first | exact Ext.refl _ | assumption | refine Ext.drew ?_ | refine Ext.alloc ?_ _ | refine Ext.setCell ?_ (by simp) | refine Ext.setCell ?_ (by simp; omega) | refine Ext.trans ?_ (by assumption)) ?_
      repeat (go_big_quiet_step ((fail)))
      refine wpQuiet_nil ?_
      refine rx_end (by kernel_rfl) ?_
      go_wp2
      go_ret
      exact ⟨ret_b hv.symm, hwW.trans (by repeat first | exact Ext.refl _ | assumption | refine Ext.drew ?_ | refine Ext.alloc ?_ _ | refine Ext.setCell ?_ (by simp) | refine Ext.setCell ?_ (by simp; omega) | refine Ext.trans ?_ (by assumption))⟩
    · have hv := lok_no2 (ns := ns) h2
      have g2 : decide (p < q) = false := decide_eq_false h2
      clear h
      go_enter Tryz.func77, Tryz.ntmps77
      go_wp2_with fail
      obtain ⟨W, hW⟩ : ∃ W, w.alloc (Obj.cells #[Value.int IntKind.i64 p, Value.int IntKind.i64 q] 81) = W := ⟨_, rfl⟩
      have d5 := cell_regrown (show W.cell? ⟨w.heap.size, 0, none⟩ = some (.int .i64 p) by rw [← hW, World.cell?_alloc_at _ _ _ _ rfl]; rfl)
      have d6 := cell_regrown (show W.cell? ⟨w.heap.size, 1, none⟩ = some (.int .i64 q) by rw [← hW, World.cell?_alloc_at _ _ _ _ rfl]; rfl)
      have hwW : Ext w W := by rw [← hW]; exact (Ext.refl _).alloc _
      rw [hW]
      clear hW
      refine rx_open [(true, 0, some 5, 8), (true, 1, some 6, 32), (true, 2, some 7, 64), (true, 4, some 8, 128), (true, 8, some 9, 264), (true, 24, some 10, 768), (true, 8, some 11, 264), (true, 72, some 12, 2304), (true, 168, some 13, 5376), (true, 264, some 14, 8448), (true, 520, some 15, 16384), (true, 1024, some 16, 32776), (true, 3072, some 17, 98304), (true, 1024, some 18, 32769), (true, 9216, some 19, 294912), (true, 21504, some 20, 688128), (true, 33792, some 21, 1081344), (true, 66560, some 22, 2097152), (true, 131072, some 23, 4194305), (true, 131072, some 24, 4194312), (true, 655360, some 25, 20971520), (true, 1441792, some 26, 46137344), (true, 2228224, some 27, 71303168), (true, 131072, some 28, 4194305), (true, 131072, some 29, 4194312), (true, 16908288, some 30, 541065216), (true, 42074112, some 31, 1346371584), (true, 67239936, some 32, 2151677952), (false, 138543104, some 33, 4433379328), (false, 268566528, some 34, 8594128896), (true, 537001984, some 35, 17184063488), (true, 1610612736, some 36, 34359738368), (true, 2147483648, some 37, 68719476737), (true, 2147483648, some 38, 68719476744), (true, 10737418240, some 39, 343597383680), (true, 23622320128, some 40, 755914244096), (true, 36507222016, some 41, 1168231104512), (true, 2147483648, some 42, 68719476737), (true, 2147483648, some 43, 68719476744), (true, 277025390592, some 44, 8864812498944), (true, 689342251008, some 45, 22058952032256), (true, 1101659111424, some 46, 35253091565568), (true, 2269890215936, some 47, 72636486909952), (true, 4400193994752, some 48, 140806207832064), (true, 17592186044415, some 4, 281474976710656)] 0 45 mixd rfl (by kernel_rfl) (by kernel_rfl) (by kernel_rfl) ?_
      refine rx_run (run := [0, 1, 2, 3, 4, 5, 6, 7, 8, 9, 10, 11, 12, 13, 14, 15, 16, 17, 18, 19, 20, 21, 22, 23, 24, 25, 26, 27]) (k := 17) (m' := 268435455) rfl (by kernel_rfl) (by kernel_rfl) (by kernel_rfl) (fm_cons rfl <| fm_cons rfl <| fm_cons rfl <| fm_cons rfl <| fm_cons rfl <| fm_cons rfl <| fm_cons rfl <| fm_cons rfl <| fm_cons rfl <| fm_cons rfl <| fm_cons rfl <| fm_cons rfl <| fm_cons rfl <| fm_cons rfl <| fm_cons rfl <| fm_cons rfl <| fm_cons rfl <| fm_cons rfl <| fm_cons rfl <| fm_cons rfl <| fm_cons rfl <| fm_cons rfl <| fm_cons rfl <| fm_cons rfl <| fm_cons rfl <| fm_cons rfl <| fm_cons rfl <| fm_cons rfl <| List.filterMap_nil) (by repeat first | exact Ext.refl _ | assumption | refine Ext.drew ?_ | refine Ext.alloc ?_ _ | refine Ext.setCell ?_ (by simp) | refine Ext.setCell ?_ (by simp; omega) | refine Ext.trans ?_ (by assumption)) ?_
      repeat (go_big_quiet_step ((fail)))
      refine wpQuiet_nil ?_
      refine rx_op 28 (k := 16) (m' := 536870911) rfl rfl (by kernel_rfl) (by kernel_rfl) ?_
      go_wp2
      refine rx_on (by repeat first | exact Ext.refl _ | assumption | refine Ext.drew ?_ | refine Ext.alloc ?_ _ | refine Ext.setCell ?_ (by simp) | refine Ext.setCell ?_ (by simp; omega) | refine Ext.trans ?_ (by assumption)) ?_
      refine rx_op 29 (k := 15) (m' := 1073741823) rfl rfl (by kernel_rfl) (by kernel_rfl) ?_
      go_wp2_with (fail)
      refine rx_on (by repeat first | exact Ext.refl _ | assumption | refine Ext.drew ?_ | refine Ext.alloc ?_ _ | refine Ext.setCell ?_ (by simp) | refine Ext.setCell ?_ (by simp; omega) | refine Ext.trans ?_ (by assumption)) ?_
      refine rx_run (run := [30, 31, 32, 33, 34, 35, 36, 37, 38, 39, 40, 41, 42, 43, 44]) (k := 0) (m' := 35184372088831) rfl (by kernel_rfl) (by kernel_rfl) (by kernel_rfl) (fm_cons rfl <| fm_cons rfl <| fm_cons rfl <| fm_cons rfl <| fm_cons rfl <| fm_cons rfl <| fm_cons rfl <| fm_cons rfl <| fm_cons rfl <| fm_cons rfl <| fm_cons rfl <| fm_cons rfl <| fm_cons rfl <| fm_cons rfl <| fm_cons rfl <| List.filterMap_nil) (by repeat first | exact Ext.refl _ | assumption | refine Ext.drew ?_ | refine Ext.alloc ?_ _ | refine Ext.setCell ?_ (by simp) | refine Ext.setCell ?_ (by simp; omega) | refine Ext.trans ?_ (by assumption)) ?_
      repeat (go_big_quiet_step ((fail)))
      refine wpQuiet_nil ?_
      refine rx_end (by kernel_rfl) ?_
      go_wp2
      go_ret
      exact ⟨ret_b hv.symm, hwW.trans (by repeat first | exact Ext.refl _ | assumption | refine Ext.drew ?_ | refine Ext.alloc ?_ _ | refine Ext.setCell ?_ (by simp) | refine Ext.setCell ?_ (by simp; omega) | refine Ext.trans ?_ (by assumption))⟩
  · have hv := lok_no1 (ns := ns) (q := q) h1
    have g1 : decide (0 ≤ p) = false := decide_eq_false h1
    clear h
    go_enter Tryz.func77, Tryz.ntmps77
    go_wp2_with fail
    obtain ⟨W, hW⟩ : ∃ W, w.alloc (Obj.cells #[Value.int IntKind.i64 p, Value.int IntKind.i64 q] 81) = W := ⟨_, rfl⟩
    have d5 := cell_regrown (show W.cell? ⟨w.heap.size, 0, none⟩ = some (.int .i64 p) by rw [← hW, World.cell?_alloc_at _ _ _ _ rfl]; rfl)
    have d6 := cell_regrown (show W.cell? ⟨w.heap.size, 1, none⟩ = some (.int .i64 q) by rw [← hW, World.cell?_alloc_at _ _ _ _ rfl]; rfl)
    have hwW : Ext w W := by rw [← hW]; exact (Ext.refl _).alloc _
    rw [hW]
    clear hW
    refine rx_open [(true, 0, some 5, 8), (true, 1, some 6, 32), (true, 2, some 7, 64), (true, 4, some 8, 128), (true, 8, some 9, 264), (true, 24, some 10, 768), (true, 8, some 11, 264), (true, 72, some 12, 2304), (true, 168, some 13, 5376), (true, 264, some 14, 8448), (true, 520, some 15, 16384), (true, 1024, some 16, 32776), (true, 3072, some 17, 98304), (true, 1024, some 18, 32769), (true, 9216, some 19, 294912), (true, 21504, some 20, 688128), (true, 33792, some 21, 1081344), (true, 66560, some 22, 2097152), (true, 131072, some 23, 4194305), (true, 131072, some 24, 4194312), (true, 655360, some 25, 20971520), (true, 1441792, some 26, 46137344), (true, 2228224, some 27, 71303168), (true, 131072, some 28, 4194305), (true, 131072, some 29, 4194312), (true, 16908288, some 30, 541065216), (true, 42074112, some 31, 1346371584), (true, 67239936, some 32, 2151677952), (false, 138543104, some 33, 4433379328), (false, 268566528, some 34, 8594128896), (true, 537001984, some 35, 17184063488), (true, 1610612736, some 36, 34359738368), (true, 2147483648, some 37, 68719476737), (true, 2147483648, some 38, 68719476744), (true, 10737418240, some 39, 343597383680), (true, 23622320128, some 40, 755914244096), (true, 36507222016, some 41, 1168231104512), (true, 2147483648, some 42, 68719476737), (true, 2147483648, some 43, 68719476744), (true, 277025390592, some 44, 8864812498944), (true, 689342251008, some 45, 22058952032256), (true, 1101659111424, some 46, 35253091565568), (true, 2269890215936, some 47, 72636486909952), (true, 4400193994752, some 48, 140806207832064), (true, 17592186044415, some 4, 281474976710656)] 0 45 mixd rfl (by kernel_rfl) (by kernel_rfl) (by kernel_rfl) ?_
    refine rx_run (run := [0, 1, 2, 3, 4, 5, 6, 7, 8, 9, 10, 11, 12, 13, 14, 15, 16, 17, 18, 19, 20, 21, 22, 23, 24, 25, 26, 27]) (k := 17) (m' := 268435455) rfl (by kernel_rfl) (by kernel_rfl) (by kernel_rfl) (fm_cons rfl <| fm_cons rfl <| fm_cons rfl <| fm_cons rfl <| fm_cons rfl <| fm_cons rfl <| fm_cons rfl <| fm_cons rfl <| fm_cons rfl <| fm_cons rfl <| fm_cons rfl <| fm_cons rfl <| fm_cons rfl <| fm_cons rfl <| fm_cons rfl <| fm_cons rfl <| fm_cons rfl <| fm_cons rfl <| fm_cons rfl <| fm_cons rfl <| fm_cons rfl <| fm_cons rfl <| fm_cons rfl <| fm_cons rfl <| fm_cons rfl <| fm_cons rfl <| fm_cons rfl <| fm_cons rfl <| List.filterMap_nil) (by repeat first | exact Ext.refl _ | assumption | refine Ext.drew ?_ | refine Ext.alloc ?_ _ | refine Ext.setCell ?_ (by simp) | refine Ext.setCell ?_ (by simp; omega) | refine Ext.trans ?_ (by assumption)) ?_
    repeat (go_big_quiet_step ((fail)))
    refine wpQuiet_nil ?_
    refine rx_op 28 (k := 16) (m' := 536870911) rfl rfl (by kernel_rfl) (by kernel_rfl) ?_
    go_wp2
    refine rx_on (by repeat first | exact Ext.refl _ | assumption | refine Ext.drew ?_ | refine Ext.alloc ?_ _ | refine Ext.setCell ?_ (by simp) | refine Ext.setCell ?_ (by simp; omega) | refine Ext.trans ?_ (by assumption)) ?_
    refine rx_op 29 (k := 15) (m' := 1073741823) rfl rfl (by kernel_rfl) (by kernel_rfl) ?_
    go_wp2_with (fail)
    refine rx_on (by repeat first | exact Ext.refl _ | assumption | refine Ext.drew ?_ | refine Ext.alloc ?_ _ | refine Ext.setCell ?_ (by simp) | refine Ext.setCell ?_ (by simp; omega) | refine Ext.trans ?_ (by assumption)) ?_
    refine rx_run (run := [30, 31, 32, 33, 34, 35, 36, 37, 38, 39, 40, 41, 42, 43, 44]) (k := 0) (m' := 35184372088831) rfl (by kernel_rfl) (by kernel_rfl) (by kernel_rfl) (fm_cons rfl <| fm_cons rfl <| fm_cons rfl <| fm_cons rfl <| fm_cons rfl <| fm_cons rfl <| fm_cons rfl <| fm_cons rfl <| fm_cons rfl <| fm_cons rfl <| fm_cons rfl <| fm_cons rfl <| fm_cons rfl <| fm_cons rfl <| fm_cons rfl <| List.filterMap_nil) (by repeat first | exact Ext.refl _ | assumption | refine Ext.drew ?_ | refine Ext.alloc ?_ _ | refine Ext.setCell ?_ (by simp) | refine Ext.setCell ?_ (by simp; omega) | refine Ext.trans ?_ (by assumption)) ?_
    repeat (go_big_quiet_step ((fail)))
    refine wpQuiet_nil ?_
    refine rx_end (by kernel_rfl) ?_
    go_wp2
    go_ret
    exact ⟨ret_b hv.symm, hwW.trans (by repeat first | exact Ext.refl _ | assumption | refine Ext.drew ?_ | refine Ext.alloc ?_ _ | refine Ext.setCell ?_ (by simp) | refine Ext.setCell ?_ (by simp; omega) | refine Ext.trans ?_ (by assumption))⟩

set_option maxRecDepth 100000 in
set_option maxHeartbeats 1000000 in
theorem LeadOk_i (A : Option Addr) (c : Nat) (ns : List (Int × Int)) (p q : Int) (w : World) (_ : ns.length ≤ 2000000) (h : Pr w w.heap.size A ns) :
    Calls Tryz.prog 77 #[.slice A ns.length c, .agg #[.int .i64 p, .int .i64 q]] w fun e w' => e = .returned (.bool (lok ns (p, q))) ∧ Ext w w' := by
  by_cases h0 : 0 ≤ p ∧ p < q ∧ q < ns.length
  · obtain ⟨h1, h2, h3⟩ := h0
    obtain ⟨p, rfl⟩ := Int.eq_ofNat_of_zero_le h1
    obtain ⟨q, rfl⟩ := Int.eq_ofNat_of_zero_le (show 0 ≤ q by omega)
    have hp : (p : Int) < ns.length := by omega
    have hp' : p < ns.length := by omega
    have hq' : q < ns.length := by omega
    obtain ⟨b, off, rfl, hbb, c1, c2⟩ := h.at_ (k := p) (by omega)
    obtain ⟨b', off', he, hbb', c3, c4⟩ := h.at_ (k := q) (by omega)
    obtain ⟨rfl, rfl⟩ : b = b' ∧ off = off' := by simpa using he
    clear he hbb' h
    by_cases hn : (nok ns[p] && nok ns[q]) = true
    · have hv := lok_yes hp' hq' h2 hn
      go_enter Tryz.func77, Tryz.ntmps77
      go_wp2_with fail
      obtain ⟨W, hW⟩ : ∃ W, w.alloc (Obj.cells #[Value.int IntKind.i64 ↑p, Value.int IntKind.i64 ↑q] 81) = W := ⟨_, rfl⟩
      have hwW : Ext w W := by rw [← hW]; exact (Ext.refl _).alloc _
      have d1 := cell_regrown (hwW.lit c1)
      have d2 := cell_regrown (hwW.lit c2)
      have d3 := cell_regrown (hwW.lit c3)
      have d4 := cell_regrown (hwW.lit c4)
      have d5 := cell_regrown (show W.cell? ⟨w.heap.size, 0, none⟩ = some (.int .i64 p) by rw [← hW, World.cell?_alloc_at _ _ _ _ rfl]; rfl)
      have d6 := cell_regrown (show W.cell? ⟨w.heap.size, 1, none⟩ = some (.int .i64 q) by rw [← hW, World.cell?_alloc_at _ _ _ _ rfl]; rfl)
      rw [hW]
      clear hW c1 c2 c3 c4
      refine rx_open [(true, 0, some 5, 8), (true, 1, some 6, 32), (true, 2, some 7, 64), (true, 4, some 8, 128), (true, 8, some 9, 264), (true, 24, some 10, 768), (true, 8, some 11, 264), (true, 72, some 12, 2304), (true, 168, some 13, 5376), (true, 264, some 14, 8448), (true, 520, some 15, 16384), (true, 1024, some 16, 32776), (true, 3072, some 17, 98304), (true, 1024, some 18, 32769), (true, 9216, some 19, 294912), (true, 21504, some 20, 688128), (true, 33792, some 21, 1081344), (true, 66560, some 22, 2097152), (true, 131072, some 23, 4194305), (true, 131072, some 24, 4194312), (true, 655360, some 25, 20971520), (true, 1441792, some 26, 46137344), (true, 2228224, some 27, 71303168), (true, 131072, some 28, 4194305), (true, 131072, some 29, 4194312), (true, 16908288, some 30, 541065216), (true, 42074112, some 31, 1346371584), (true, 67239936, some 32, 2151677952), (false, 138543104, some 33, 4433379328), (false, 268566528, some 34, 8594128896), (true, 537001984, some 35, 17184063488), (true, 1610612736, some 36, 34359738368), (true, 2147483648, some 37, 68719476737), (true, 2147483648, some 38, 68719476744), (true, 10737418240, some 39, 343597383680), (true, 23622320128, some 40, 755914244096), (true, 36507222016, some 41, 1168231104512), (true, 2147483648, some 42, 68719476737), (true, 2147483648, some 43, 68719476744), (true, 277025390592, some 44, 8864812498944), (true, 689342251008, some 45, 22058952032256), (true, 1101659111424, some 46, 35253091565568), (true, 2269890215936, some 47, 72636486909952), (true, 4400193994752, some 48, 140806207832064), (true, 17592186044415, some 4, 281474976710656)] 0 45 mixd rfl (by kernel_rfl) (by kernel_rfl) (by kernel_rfl) ?_
      refine rx_run (run := [0, 1, 2, 3, 4, 5, 6, 7, 8, 9, 10, 11, 12, 13, 14, 15, 16, 17, 18, 19, 20, 21, 22, 23, 24, 25, 26, 27]) (k := 17) (m' := 268435455) rfl (by kernel_rfl) (by kernel_rfl) (by kernel_rfl) (fm_cons rfl <| fm_cons rfl <| fm_cons rfl <| fm_cons rfl <| fm_cons rfl <| fm_cons rfl <| fm_cons rfl <| fm_cons rfl <| fm_cons rfl <| fm_cons rfl <| fm_cons rfl <| fm_cons rfl <| fm_cons rfl <| fm_cons rfl <| fm_cons rfl <| fm_cons rfl <| fm_cons rfl <| fm_cons rfl <| fm_cons rfl <| fm_cons rfl <| fm_cons rfl <| fm_cons rfl <| fm_cons rfl <| fm_cons rfl <| fm_cons rfl <| fm_cons rfl <| fm_cons rfl <| fm_cons rfl <| List.filterMap_nil) (by repeat first | exact Ext.refl _ | assumption | refine Ext.drew ?_ | refine Ext.alloc ?_ _ | refine Ext.setCell ?_ (by simp) | refine Ext.setCell ?_ (by simp; omega) | refine Ext.trans ?_ (by assumption)) ?_
      repeat (go_big_quiet_step ((fail)))
      refine wpQuiet_nil ?_
      refine rx_op 28 (k := 16) (m' := 536870911) rfl rfl (by kernel_rfl) (by kernel_rfl) ?_
      go_wp2
      refine rx_on (by repeat first | exact Ext.refl _ | assumption | refine Ext.drew ?_ | refine Ext.alloc ?_ _ | refine Ext.setCell ?_ (by simp) | refine Ext.setCell ?_ (by simp; omega) | refine Ext.trans ?_ (by assumption)) ?_
      refine rx_op 29 (k := 15) (m' := 1073741823) rfl rfl (by kernel_rfl) (by kernel_rfl) ?_
      go_wp2_with (go_at_call 75; refine (nodesOk2 ns[p] ns[q] _ _ (by first | exact heap_new _ rfl | exact heap_new_d _ rfl)).mono ?_; rintro e w1 ⟨rfl, hb1⟩; rw [hn])
      refine rx_on (by repeat first | exact Ext.refl _ | assumption | refine Ext.drew ?_ | refine Ext.alloc ?_ _ | refine Ext.setCell ?_ (by simp) | refine Ext.setCell ?_ (by simp; omega) | refine Ext.trans ?_ (by assumption)) ?_
      refine rx_run (run := [30, 31, 32, 33, 34, 35, 36, 37, 38, 39, 40, 41, 42, 43, 44]) (k := 0) (m' := 35184372088831) rfl (by kernel_rfl) (by kernel_rfl) (by kernel_rfl) (fm_cons rfl <| fm_cons rfl <| fm_cons rfl <| fm_cons rfl <| fm_cons rfl <| fm_cons rfl <| fm_cons rfl <| fm_cons rfl <| fm_cons rfl <| fm_cons rfl <| fm_cons rfl <| fm_cons rfl <| fm_cons rfl <| fm_cons rfl <| fm_cons rfl <| List.filterMap_nil) (by repeat first | exact Ext.refl _ | assumption | refine Ext.drew ?_ | refine Ext.alloc ?_ _ | refine Ext.setCell ?_ (by simp) | refine Ext.setCell ?_ (by simp; omega) | refine Ext.trans ?_ (by assumption)) ?_
      repeat (go_big_quiet_step ((fail)))
      refine wpQuiet_nil ?_
      refine rx_end (by kernel_rfl) ?_
      go_wp2
      go_ret
      exact ⟨ret_b (by rw [hv]), hwW.trans (by repeat first | exact Ext.refl _ | assumption | refine Ext.drew ?_ | refine Ext.alloc ?_ _ | refine Ext.setCell ?_ (by simp) | refine Ext.setCell ?_ (by simp; omega) | refine Ext.trans ?_ (by assumption))⟩
    · have hn' := eq_false_of_ne_true hn
      have hv := lok_no4 hp' hq' hn'
      clear hn
      go_enter Tryz.func77, Tryz.ntmps77
      go_wp2_with fail
      obtain ⟨W, hW⟩ : ∃ W, w.alloc (Obj.cells #[Value.int IntKind.i64 ↑p, Value.int IntKind.i64 ↑q] 81) = W := ⟨_, rfl⟩
      have hwW : Ext w W := by rw [← hW]; exact (Ext.refl _).alloc _
      have d1 := cell_regrown (hwW.lit c1)
      have d2 := cell_regrown (hwW.lit c2)
      have d3 := cell_regrown (hwW.lit c3)
      have d4 := cell_regrown (hwW.lit c4)
      have d5 := cell_regrown (show W.cell? ⟨w.heap.size, 0, none⟩ = some (.int .i64 p) by rw [← hW, World.cell?_alloc_at _ _ _ _ rfl]; rfl)
      have d6 := cell_regrown (show W.cell? ⟨w.heap.size, 1, none⟩ = some (.int .i64 q) by rw [← hW, World.cell?_alloc_at _ _ _ _ rfl]; rfl)
      rw [hW]
      clear hW c1 c2 c3 c4
      refine rx_open [(true, 0, some 5, 8), (true, 1, some 6, 32), (true, 2, some 7, 64), (true, 4, some 8, 128), (true, 8, some 9, 264), (true, 24, some 10, 768), (true, 8, some 11, 264), (true, 72, some 12, 2304), (true, 168, some 13, 5376), (true, 264, some 14, 8448), (true, 520, some 15, 16384), (true, 1024, some 16, 32776), (true, 3072, some 17, 98304), (true, 1024, some 18, 32769), (true, 9216, some 19, 294912), (true, 21504, some 20, 688128), (true, 33792, some 21, 1081344), (true, 66560, some 22, 2097152), (true, 131072, some 23, 4194305), (true, 131072, some 24, 4194312), (true, 655360, some 25, 20971520), (true, 1441792, some 26, 46137344), (true, 2228224, some 27, 71303168), (true, 131072, some 28, 4194305), (true, 131072, some 29, 4194312), (true, 16908288, some 30, 541065216), (true, 42074112, some 31, 1346371584), (true, 67239936, some 32, 2151677952), (false, 138543104, some 33, 4433379328), (false, 268566528, some 34, 8594128896), (true, 537001984, some 35, 17184063488), (true, 1610612736, some 36, 34359738368), (true, 2147483648, some 37, 68719476737), (true, 2147483648, some 38, 68719476744), (true, 10737418240, some 39, 343597383680), (true, 23622320128, some 40, 755914244096), (true, 36507222016, some 41, 1168231104512), (true, 2147483648, some 42, 68719476737), (true, 2147483648, some 43, 68719476744), (true, 277025390592, some 44, 8864812498944), (true, 689342251008, some 45, 22058952032256), (true, 1101659111424, some 46, 35253091565568), (true, 2269890215936, some 47, 72636486909952), (true, 4400193994752, some 48, 140806207832064), (true, 17592186044415, some 4, 281474976710656)] 0 45 mixd rfl (by kernel_rfl) (by kernel_rfl) (by kernel_rfl) ?_
      refine rx_run (run := [0, 1, 2, 3, 4, 5, 6, 7, 8, 9, 10, 11, 12, 13, 14, 15, 16, 17, 18, 19, 20, 21, 22, 23, 24, 25, 26, 27]) (k := 17) (m' := 268435455) rfl (by kernel_rfl) (by kernel_rfl) (by kernel_rfl) (fm_cons rfl <| fm_cons rfl <| fm_cons rfl <| fm_cons rfl <| fm_cons rfl <| fm_cons rfl <| fm_cons rfl <| fm_cons rfl <| fm_cons rfl <| fm_cons rfl <| fm_cons rfl <| fm_cons rfl <| fm_cons rfl <| fm_cons rfl <| fm_cons rfl <| fm_cons rfl <| fm_cons rfl <| fm_cons rfl <| fm_cons rfl <| fm_cons rfl <| fm_cons rfl <| fm_cons rfl <| fm_cons rfl <| fm_cons rfl <| fm_cons rfl <| fm_cons rfl <| fm_cons rfl <| fm_cons rfl <| List.filterMap_nil) (by repeat first | exact Ext.refl _ | assumption | refine Ext.drew ?_ | refine Ext.alloc ?_ _ | refine Ext.setCell ?_ (by simp) | refine Ext.setCell ?_ (by simp; omega) | refine Ext.trans ?_ (by assumption)) ?_
      repeat (go_big_quiet_step ((fail)))
      refine wpQuiet_nil ?_
      refine rx_op 28 (k := 16) (m' := 536870911) rfl rfl (by kernel_rfl) (by kernel_rfl) ?_
      go_wp2
      refine rx_on (by repeat first | exact Ext.refl _ | assumption | refine Ext.drew ?_ | refine Ext.alloc ?_ _ | refine Ext.setCell ?_ (by simp) | refine Ext.setCell ?_ (by simp; omega) | refine Ext.trans ?_ (by assumption)) ?_
      refine rx_op 29 (k := 15) (m' := 1073741823) rfl rfl (by kernel_rfl) (by kernel_rfl) ?_
      go_wp2_with (go_at_call 75; refine (nodesOk2 ns[p] ns[q] _ _ (by first | exact heap_new _ rfl | exact heap_new_d _ rfl)).mono ?_; rintro e w1 ⟨rfl, hb1⟩; rw [hn'])
      refine rx_on (by repeat first | exact Ext.refl _ | assumption | refine Ext.drew ?_ | refine Ext.alloc ?_ _ | refine Ext.setCell ?_ (by simp) | refine Ext.setCell ?_ (by simp; omega) | refine Ext.trans ?_ (by assumption)) ?_
      refine rx_run (run := [30, 31, 32, 33, 34, 35, 36, 37, 38, 39, 40, 41, 42, 43, 44]) (k := 0) (m' := 35184372088831) rfl (by kernel_rfl) (by kernel_rfl) (by kernel_rfl) (fm_cons rfl <| fm_cons rfl <| fm_cons rfl <| fm_cons rfl <| fm_cons rfl <| fm_cons rfl <| fm_cons rfl <| fm_cons rfl <| fm_cons rfl <| fm_cons rfl <| fm_cons rfl <| fm_cons rfl <| fm_cons rfl <| fm_cons rfl <| fm_cons rfl <| List.filterMap_nil) (by repeat first | exact Ext.refl _ | assumption | refine Ext.drew ?_ | refine Ext.alloc ?_ _ | refine Ext.setCell ?_ (by simp) | refine Ext.setCell ?_ (by simp; omega) | refine Ext.trans ?_ (by assumption)) ?_
      repeat (go_big_quiet_step ((fail)))
      refine wpQuiet_nil ?_
      refine rx_end (by kernel_rfl) ?_
      go_wp2
      go_ret
      exact ⟨ret_b (by rw [hv]), hwW.trans (by repeat first | exact Ext.refl _ | assumption | refine Ext.drew ?_ | refine Ext.alloc ?_ _ | refine Ext.setCell ?_ (by simp) | refine Ext.setCell ?_ (by simp; omega) | refine Ext.trans ?_ (by assumption))⟩
  · exact LeadOk_i_no A c ns p q w h0
set_option maxRecDepth 100000 in
set_option maxHeartbeats 1000000 in
theorem LeadOk_s (A : Option Addr) (c : Nat) (ns : List (Int × Int)) (p q : Int) (w : World) (hl : ns.length ≤ 2000000) (h : Pr w w.heap.size A ns) :
    Calls Tryz.prog 70 #[.slice A ns.length c, .agg #[.int .i64 p, .int .i64 q]] w fun e w' => e = .returned (.bool (lok ns (p, q))) ∧ Ext w w' := by
  by_cases h0 : 0 ≤ p ∧ p < q ∧ q < ns.length
  · obtain ⟨h1, h2, h3⟩ := h0
    obtain ⟨p, rfl⟩ := Int.eq_ofNat_of_zero_le h1
    obtain ⟨q, rfl⟩ := Int.eq_ofNat_of_zero_le (show 0 ≤ q by omega)
    have hp : (p : Int) < ns.length := by omega
    have hp' : p < ns.length := by omega
    have hq' : q < ns.length := by omega
    obtain ⟨b, off, rfl, hbb, c1, c2⟩ := h.at_ (k := p) (by omega)
    obtain ⟨b', off', he, hbb', c3, c4⟩ := h.at_ (k := q) (by omega)
    obtain ⟨rfl, rfl⟩ : b = b' ∧ off = off' := by simpa using he
    clear he hbb' h
    have t1 : wi p 0 (ns.length - 1) = true := by simp [wi]; omega
    have t2 : wi q 0 (ns.length - 1) = true := by simp [wi]; omega
    by_cases n1 : nok ns[p] = true
    · by_cases n2 : nok ns[q] = true
      · have hv := lok_yes hp' hq' h2 (by rw [n1, n2]; rfl)
        go_enter Tryz.func70, Tryz.ntmps70
        go_wp2_with (go_at_call 28; refine (l01In_c _ _ _ _).mono ?_; rintro e w' ⟨rfl, rfl⟩)
        obtain ⟨W, hW⟩ : ∃ W, w.alloc (Obj.cells #[Value.int IntKind.i64 ↑p, Value.int IntKind.i64 ↑q] 81) = W := ⟨_, rfl⟩
        have hwW : Ext w W := by rw [← hW]; exact (Ext.refl _).alloc _
        have d1 := cell_regrown (hwW.lit c1)
        have d2 := cell_regrown (hwW.lit c2)
        have d3 := cell_regrown (hwW.lit c3)
        have d4 := cell_regrown (hwW.lit c4)
        have d5 := cell_regrown (show W.cell? ⟨w.heap.size, 0, none⟩ = some (.int .i64 p) by rw [← hW, World.cell?_alloc_at _ _ _ _ rfl]; rfl)
        have d6 := cell_regrown (show W.cell? ⟨w.heap.size, 1, none⟩ = some (.int .i64 q) by rw [← hW, World.cell?_alloc_at _ _ _ _ rfl]; rfl)
        rw [hW]
        clear hW c1 c2 c3 c4
        refine rx_open [(true, 0, some 28, 1), (true, 0, some 29, 8), (true, 2, some 30, 536870912), (true, 5, some 31, 1342177280), (true, 8, some 32, 2147483648), (false, 16, some 33, 4294967296), (true, 32, some 34, 8589934592), (true, 64, some 35, 17179869185), (true, 64, some 36, 17179869192), (true, 320, some 37, 85899345920), (true, 704, some 38, 188978561024), (true, 1088, some 39, 292057776128), (false, 2112, some 40, 566935683072), (true, 4160, some 41, 1116691496960), (true, 12288, some 42, 2199023255552), (true, 16384, some 43, 4398046511105), (true, 16384, some 44, 4398046511112), (true, 81920, some 45, 21990232555520), (true, 180224, some 46, 48378511622144), (true, 278528, some 47, 74766790688768), (true, 16384, some 48, 4398046511105), (true, 16384, some 49, 4398046511112), (true, 2113536, some 50, 567347999932416), (true, 5259264, some 51, 1411772930064384), (true, 8404992, some 52, 2256197860196352), (true, 17317888, some 53, 4648735162236928), (true, 33570816, some 54, 9011597301252096), (true, 134217727, some 4, 18014398509481984)] 0 28 mixd rfl (by kernel_rfl) (by kernel_rfl) (by kernel_rfl) ?_
        refine rx_run (run := [0, 1, 2, 3, 4]) (k := 23) (m' := 31) rfl (by kernel_rfl) (by kernel_rfl) (by kernel_rfl) (fm_cons rfl <| fm_cons rfl <| fm_cons rfl <| fm_cons rfl <| fm_cons rfl <| List.filterMap_nil) (by repeat first | exact Ext.refl _ | assumption | refine Ext.drew ?_ | refine Ext.alloc ?_ _ | refine Ext.setCell ?_ (by simp) | refine Ext.setCell ?_ (by simp; omega) | refine Ext.trans ?_ (by assumption)) ?_
        repeat (go_big_quiet_step ((fail)))
        refine wpQuiet_nil ?_
        refine rx_op 5 (k := 22) (m' := 63) rfl rfl (by kernel_rfl) (by kernel_rfl) ?_
        go_wp2_with (go_at_call 69; refine (NodeOk_s _ _ _).mono ?_; rintro e w1 ⟨rfl, hb1⟩; first | rw [show nok (ns[p].fst, ns[p].snd) = true from n1] | rw [show nok (ns[q].fst, ns[q].snd) = true from n2])
        refine rx_on (by repeat first | exact Ext.refl _ | assumption | refine Ext.drew ?_ | refine Ext.alloc ?_ _ | refine Ext.setCell ?_ (by simp) | refine Ext.setCell ?_ (by simp; omega) | refine Ext.trans ?_ (by assumption)) ?_
        refine rx_run (run := [6, 7, 8, 9, 10, 11]) (k := 16) (m' := 4095) rfl (by kernel_rfl) (by kernel_rfl) (by kernel_rfl) (fm_cons rfl <| fm_cons rfl <| fm_cons rfl <| fm_cons rfl <| fm_cons rfl <| fm_cons rfl <| List.filterMap_nil) (by repeat first | exact Ext.refl _ | assumption | refine Ext.drew ?_ | refine Ext.alloc ?_ _ | refine Ext.setCell ?_ (by simp) | refine Ext.setCell ?_ (by simp; omega) | refine Ext.trans ?_ (by assumption)) ?_
        repeat (go_big_quiet_step ((fail)))
        refine wpQuiet_nil ?_
        refine rx_op 12 (k := 15) (m' := 8191) rfl rfl (by kernel_rfl) (by kernel_rfl) ?_
        go_wp2_with (go_at_call 69; refine (NodeOk_s _ _ _).mono ?_; rintro e w1 ⟨rfl, hb1⟩; first | rw [show nok (ns[p].fst, ns[p].snd) = true from n1] | rw [show nok (ns[q].fst, ns[q].snd) = true from n2])
        refine rx_on (by repeat first | exact Ext.refl _ | assumption | refine Ext.drew ?_ | refine Ext.alloc ?_ _ | refine Ext.setCell ?_ (by simp) | refine Ext.setCell ?_ (by simp; omega) | refine Ext.trans ?_ (by assumption)) ?_
        refine rx_run (run := [13, 14, 15, 16, 17, 18, 19, 20, 21, 22, 23, 24, 25, 26, 27]) (k := 0) (m' := 268435455) rfl (by kernel_rfl) (by kernel_rfl) (by kernel_rfl) (fm_cons rfl <| fm_cons rfl <| fm_cons rfl <| fm_cons rfl <| fm_cons rfl <| fm_cons rfl <| fm_cons rfl <| fm_cons rfl <| fm_cons rfl <| fm_cons rfl <| fm_cons rfl <| fm_cons rfl <| fm_cons rfl <| fm_cons rfl <| fm_cons rfl <| List.filterMap_nil) (by repeat first | exact Ext.refl _ | assumption | refine Ext.drew ?_ | refine Ext.alloc ?_ _ | refine Ext.setCell ?_ (by simp) | refine Ext.setCell ?_ (by simp; omega) | refine Ext.trans ?_ (by assumption)) ?_
        repeat (go_big_quiet_step ((fail)))
        refine wpQuiet_nil ?_
        refine rx_end (by kernel_rfl) ?_
        go_wp2
        go_ret
        exact ⟨ret_b (by rw [hv]), hwW.trans (by repeat first | exact Ext.refl _ | assumption | refine Ext.drew ?_ | refine Ext.alloc ?_ _ | refine Ext.setCell ?_ (by simp) | refine Ext.setCell ?_ (by simp; omega) | refine Ext.trans ?_ (by assumption))⟩
      · have n2' := eq_false_of_ne_true n2
        have hv := lok_no4 hp' hq' (by rw [n1, n2']; rfl)
        clear n2
        go_enter Tryz.func70, Tryz.ntmps70
        go_wp2_with (go_at_call 28; refine (l01In_c _ _ _ _).mono ?_; rintro e w' ⟨rfl, rfl⟩)
        obtain ⟨W, hW⟩ : ∃ W, w.alloc (Obj.cells #[Value.int IntKind.i64 ↑p, Value.int IntKind.i64 ↑q] 81) = W := ⟨_, rfl⟩
        have hwW : Ext w W := by rw [← hW]; exact (Ext.refl _).alloc _
        have d1 := cell_regrown (hwW.lit c1)
        have d2 := cell_regrown (hwW.lit c2)
        have d3 := cell_regrown (hwW.lit c3)
        have d4 := cell_regrown (hwW.lit c4)
        have d5 := cell_regrown (show W.cell? ⟨w.heap.size, 0, none⟩ = some (.int .i64 p) by rw [← hW, World.cell?_alloc_at _ _ _ _ rfl]; rfl)
        have d6 := cell_regrown (show W.cell? ⟨w.heap.size, 1, none⟩ = some (.int .i64 q) by rw [← hW, World.cell?_alloc_at _ _ _ _ rfl]; rfl)
        rw [hW]
        clear hW c1 c2 c3 c4
        refine rx_open [(true, 0, some 28, 1), (true, 0, some 29, 8), (true, 2, some 30, 536870912), (true, 5, some 31, 1342177280), (true, 8, some 32, 2147483648), (false, 16, some 33, 4294967296), (true, 32, some 34, 8589934592), (true, 64, some 35, 17179869185), (true, 64, some 36, 17179869192), (true, 320, some 37, 85899345920), (true, 704, some 38, 188978561024), (true, 1088, some 39, 292057776128), (false, 2112, some 40, 566935683072), (true, 4160, some 41, 1116691496960), (true, 12288, some 42, 2199023255552), (true, 16384, some 43, 4398046511105), (true, 16384, some 44, 4398046511112), (true, 81920, some 45, 21990232555520), (true, 180224, some 46, 48378511622144), (true, 278528, some 47, 74766790688768), (true, 16384, some 48, 4398046511105), (true, 16384, some 49, 4398046511112), (true, 2113536, some 50, 567347999932416), (true, 5259264, some 51, 1411772930064384), (true, 8404992, some 52, 2256197860196352), (true, 17317888, some 53, 4648735162236928), (true, 33570816, some 54, 9011597301252096), (true, 134217727, some 4, 18014398509481984)] 0 28 mixd rfl (by kernel_rfl) (by kernel_rfl) (by kernel_rfl) ?_
        refine rx_run (run := [0, 1, 2, 3, 4]) (k := 23) (m' := 31) rfl (by kernel_rfl) (by kernel_rfl) (by kernel_rfl) (fm_cons rfl <| fm_cons rfl <| fm_cons rfl <| fm_cons rfl <| fm_cons rfl <| List.filterMap_nil) (by repeat first | exact Ext.refl _ | assumption | refine Ext.drew ?_ | refine Ext.alloc ?_ _ | refine Ext.setCell ?_ (by simp) | refine Ext.setCell ?_ (by simp; omega) | refine Ext.trans ?_ (by assumption)) ?_
        repeat (go_big_quiet_step ((fail)))
        refine wpQuiet_nil ?_
        refine rx_op 5 (k := 22) (m' := 63) rfl rfl (by kernel_rfl) (by kernel_rfl) ?_
        go_wp2_with (go_at_call 69; refine (NodeOk_s _ _ _).mono ?_; rintro e w1 ⟨rfl, hb1⟩; first | rw [show nok (ns[p].fst, ns[p].snd) = true from n1] | rw [show nok (ns[q].fst, ns[q].snd) = false from n2'])
        refine rx_on (by repeat first | exact Ext.refl _ | assumption | refine Ext.drew ?_ | refine Ext.alloc ?_ _ | refine Ext.setCell ?_ (by simp) | refine Ext.setCell ?_ (by simp; omega) | refine Ext.trans ?_ (by assumption)) ?_
        refine rx_run (run := [6, 7, 8, 9, 10, 11]) (k := 16) (m' := 4095) rfl (by kernel_rfl) (by kernel_rfl) (by kernel_rfl) (fm_cons rfl <| fm_cons rfl <| fm_cons rfl <| fm_cons rfl <| fm_cons rfl <| fm_cons rfl <| List.filterMap_nil) (by repeat first | exact Ext.refl _ | assumption | refine Ext.drew ?_ | refine Ext.alloc ?_ _ | refine Ext.setCell ?_ (by simp) | refine Ext.setCell ?_ (by simp; omega) | refine Ext.trans ?_ (by assumption)) ?_
        repeat (go_big_quiet_step ((fail)))
        refine wpQuiet_nil ?_
        refine rx_op 12 (k := 15) (m' := 8191) rfl rfl (by kernel_rfl) (by kernel_rfl) ?_
        go_wp2_with (go_at_call 69; refine (NodeOk_s _ _ _).mono ?_; rintro e w1 ⟨rfl, hb1⟩; first | rw [show nok (ns[p].fst, ns[p].snd) = true from n1] | rw [show nok (ns[q].fst, ns[q].snd) = false from n2'])
        refine rx_on (by repeat first | exact Ext.refl _ | assumption | refine Ext.drew ?_ | refine Ext.alloc ?_ _ | refine Ext.setCell ?_ (by simp) | refine Ext.setCell ?_ (by simp; omega) | refine Ext.trans ?_ (by assumption)) ?_
        refine rx_run (run := [13, 14, 15, 16, 17, 18, 19, 20, 21, 22, 23, 24, 25, 26, 27]) (k := 0) (m' := 268435455) rfl (by kernel_rfl) (by kernel_rfl) (by kernel_rfl) (fm_cons rfl <| fm_cons rfl <| fm_cons rfl <| fm_cons rfl <| fm_cons rfl <| fm_cons rfl <| fm_cons rfl <| fm_cons rfl <| fm_cons rfl <| fm_cons rfl <| fm_cons rfl <| fm_cons rfl <| fm_cons rfl <| fm_cons rfl <| fm_cons rfl <| List.filterMap_nil) (by repeat first | exact Ext.refl _ | assumption | refine Ext.drew ?_ | refine Ext.alloc ?_ _ | refine Ext.setCell ?_ (by simp) | refine Ext.setCell ?_ (by simp; omega) | refine Ext.trans ?_ (by assumption)) ?_
        repeat (go_big_quiet_step ((fail)))
        refine wpQuiet_nil ?_
        refine rx_end (by kernel_rfl) ?_
        go_wp2
        go_ret
        exact ⟨ret_b (by rw [hv]), hwW.trans (by repeat first | exact Ext.refl _ | assumption | refine Ext.drew ?_ | refine Ext.alloc ?_ _ | refine Ext.setCell ?_ (by simp) | refine Ext.setCell ?_ (by simp; omega) | refine Ext.trans ?_ (by assumption))⟩
    · have n1' := eq_false_of_ne_true n1
      have hv := lok_no4 hp' hq' (by rw [n1']; rfl)
      clear n1
      go_enter Tryz.func70, Tryz.ntmps70
      go_wp2_with (go_at_call 28; refine (l01In_c _ _ _ _).mono ?_; rintro e w' ⟨rfl, rfl⟩)
      obtain ⟨W, hW⟩ : ∃ W, w.alloc (Obj.cells #[Value.int IntKind.i64 ↑p, Value.int IntKind.i64 ↑q] 81) = W := ⟨_, rfl⟩
      have hwW : Ext w W := by rw [← hW]; exact (Ext.refl _).alloc _
      have d1 := cell_regrown (hwW.lit c1)
      have d2 := cell_regrown (hwW.lit c2)
      have d3 := cell_regrown (hwW.lit c3)
      have d4 := cell_regrown (hwW.lit c4)
      have d5 := cell_regrown (show W.cell? ⟨w.heap.size, 0, none⟩ = some (.int .i64 p) by rw [← hW, World.cell?_alloc_at _ _ _ _ rfl]; rfl)
      have d6 := cell_regrown (show W.cell? ⟨w.heap.size, 1, none⟩ = some (.int .i64 q) by rw [← hW, World.cell?_alloc_at _ _ _ _ rfl]; rfl)
      rw [hW]
      clear hW c1 c2 c3 c4
      refine rx_open [(true, 0, some 28, 1), (true, 0, some 29, 8), (true, 2, some 30, 536870912), (true, 5, some 31, 1342177280), (true, 8, some 32, 2147483648), (false, 16, some 33, 4294967296), (true, 32, some 34, 8589934592), (true, 64, some 35, 17179869185), (true, 64, some 36, 17179869192), (true, 320, some 37, 85899345920), (true, 704, some 38, 188978561024), (true, 1088, some 39, 292057776128), (false, 2112, some 40, 566935683072), (true, 4160, some 41, 1116691496960), (true, 12288, some 42, 2199023255552), (true, 16384, some 43, 4398046511105), (true, 16384, some 44, 4398046511112), (true, 81920, some 45, 21990232555520), (true, 180224, some 46, 48378511622144), (true, 278528, some 47, 74766790688768), (true, 16384, some 48, 4398046511105), (true, 16384, some 49, 4398046511112), (true, 2113536, some 50, 567347999932416), (true, 5259264, some 51, 1411772930064384), (true, 8404992, some 52, 2256197860196352), (true, 17317888, some 53, 4648735162236928), (true, 33570816, some 54, 9011597301252096), (true, 134217727, some 4, 18014398509481984)] 0 28 mixd rfl (by kernel_rfl) (by kernel_rfl) (by kernel_rfl) ?_
      refine rx_run (run := [0, 1, 2, 3, 4]) (k := 23) (m' := 31) rfl (by kernel_rfl) (by kernel_rfl) (by kernel_rfl) (fm_cons rfl <| fm_cons rfl <| fm_cons rfl <| fm_cons rfl <| fm_cons rfl <| List.filterMap_nil) (by repeat first | exact Ext.refl _ | assumption | refine Ext.drew ?_ | refine Ext.alloc ?_ _ | refine Ext.setCell ?_ (by simp) | refine Ext.setCell ?_ (by simp; omega) | refine Ext.trans ?_ (by assumption)) ?_
      repeat (go_big_quiet_step ((fail)))
      refine wpQuiet_nil ?_
      refine rx_op 5 (k := 22) (m' := 63) rfl rfl (by kernel_rfl) (by kernel_rfl) ?_
      go_wp2_with (go_at_call 69; refine (NodeOk_s _ _ _).mono ?_; rintro e w1 ⟨rfl, hb1⟩; rw [show nok (ns[p].fst, ns[p].snd) = false from n1'])
      refine rx_on (by repeat first | exact Ext.refl _ | assumption | refine Ext.drew ?_ | refine Ext.alloc ?_ _ | refine Ext.setCell ?_ (by simp) | refine Ext.setCell ?_ (by simp; omega) | refine Ext.trans ?_ (by assumption)) ?_
      refine rx_run (run := [6, 7, 8, 9, 10, 11]) (k := 16) (m' := 4095) rfl (by kernel_rfl) (by kernel_rfl) (by kernel_rfl) (fm_cons rfl <| fm_cons rfl <| fm_cons rfl <| fm_cons rfl <| fm_cons rfl <| fm_cons rfl <| List.filterMap_nil) (by repeat first | exact Ext.refl _ | assumption | refine Ext.drew ?_ | refine Ext.alloc ?_ _ | refine Ext.setCell ?_ (by simp) | refine Ext.setCell ?_ (by simp; omega) | refine Ext.trans ?_ (by assumption)) ?_
      repeat (go_big_quiet_step ((fail)))
      refine wpQuiet_nil ?_
      refine rx_op 12 (k := 15) (m' := 8191) rfl rfl (by kernel_rfl) (by kernel_rfl) ?_
      go_wp2_with (go_at_call 69; refine (NodeOk_s _ _ _).mono ?_; rintro e w1 ⟨rfl, hb1⟩; rw [show nok (ns[p].fst, ns[p].snd) = false from n1'])
      refine rx_on (by repeat first | exact Ext.refl _ | assumption | refine Ext.drew ?_ | refine Ext.alloc ?_ _ | refine Ext.setCell ?_ (by simp) | refine Ext.setCell ?_ (by simp; omega) | refine Ext.trans ?_ (by assumption)) ?_
      refine rx_run (run := [13, 14, 15, 16, 17, 18, 19, 20, 21, 22, 23, 24, 25, 26, 27]) (k := 0) (m' := 268435455) rfl (by kernel_rfl) (by kernel_rfl) (by kernel_rfl) (fm_cons rfl <| fm_cons rfl <| fm_cons rfl <| fm_cons rfl <| fm_cons rfl <| fm_cons rfl <| fm_cons rfl <| fm_cons rfl <| fm_cons rfl <| fm_cons rfl <| fm_cons rfl <| fm_cons rfl <| fm_cons rfl <| fm_cons rfl <| fm_cons rfl <| List.filterMap_nil) (by repeat first | exact Ext.refl _ | assumption | refine Ext.drew ?_ | refine Ext.alloc ?_ _ | refine Ext.setCell ?_ (by simp) | refine Ext.setCell ?_ (by simp; omega) | refine Ext.trans ?_ (by assumption)) ?_
      repeat (go_big_quiet_step ((fail)))
      refine wpQuiet_nil ?_
      refine rx_end (by kernel_rfl) ?_
      go_wp2
      go_ret
      exact ⟨ret_b (by rw [hv]), hwW.trans (by repeat first | exact Ext.refl _ | assumption | refine Ext.drew ?_ | refine Ext.alloc ?_ _ | refine Ext.setCell ?_ (by simp) | refine Ext.setCell ?_ (by simp; omega) | refine Ext.trans ?_ (by assumption))⟩
  · clear h
    by_cases a1 : 0 ≤ p ∧ p < ns.length
    · have t1 : wi p 0 (ns.length - 1) = true := by simp [wi]; omega
      by_cases a2 : 0 ≤ q ∧ q < ns.length
      · have t2 : wi q 0 (ns.length - 1) = true := by simp [wi]; omega
        have hpq : ¬ p < q := fun h => h0 ⟨a1.1, h, a2.2⟩
        have hv := lok_no2 (ns := ns) hpq
        have hpq' : q ≤ p := by omega
        clear h0 hpq
        go_enter Tryz.func70, Tryz.ntmps70
        go_wp2_with (go_at_call 28; refine (l01In_c _ _ _ _).mono ?_; rintro e w' ⟨rfl, rfl⟩)
        go_ret
        exact ⟨ret_b hv.symm, (Ext.refl _).alloc _⟩
      · have t2 : wi q 0 (ns.length - 1) = false := by simp [wi]; omega
        have hv : lok ns (p, q) = false := by
          by_cases x : p < q
          · exact lok_no3 (fun h => h0 ⟨a1.1, x, h⟩)
          · exact lok_no2 x
        clear h0
        go_enter Tryz.func70, Tryz.ntmps70
        go_wp2_with (go_at_call 28; refine (l01In_c _ _ _ _).mono ?_; rintro e w' ⟨rfl, rfl⟩)
        go_ret
        exact ⟨ret_b hv.symm, (Ext.refl _).alloc _⟩
    · have t1 : wi p 0 (ns.length - 1) = false := by simp [wi]; omega
      have hv : lok ns (p, q) = false := by
        by_cases y : 0 ≤ p
        · by_cases x : p < q
          · exact lok_no3 (fun h => h0 ⟨y, x, h⟩)
          · exact lok_no2 x
        · exact lok_no1 y
      clear h0
      go_enter Tryz.func70, Tryz.ntmps70
      go_wp2_with (go_at_call 28; refine (l01In_c _ _ _ _).mono ?_; rintro e w' ⟨rfl, rfl⟩)
      go_ret
      exact ⟨ret_b hv.symm, (Ext.refl _).alloc _⟩
end Go.Proofs.YtdhmjhoaegdfjaaGreat

namespace Go.Proofs.YtdhmjhoaegdfjaaGreat
open Go.RowKit Go.Sort Go.BigFrame

def turn0 (a b c : P2) : Int := (b.1 - a.1) * (c.2 - a.2) - (b.2 - a.2) * (c.1 - a.1)

theorem turn_bd {a b c : P2} (n1 : nok a = true) (n2 : nok b = true) (n3 : nok c = true) :
    (-400 ≤ (b.1 - a.1) * (c.2 - a.2) ∧ (b.1 - a.1) * (c.2 - a.2) ≤ 400) ∧ (-400 ≤ (b.2 - a.2) * (c.1 - a.1) ∧ (b.2 - a.2) * (c.1 - a.1) ≤ 400) := by
  have b1 := nok_bd n1
  have b2 := nok_bd n2
  have b3 := nok_bd n3
  exact ⟨mul_bd (by omega) (by omega) (by omega) (by omega), mul_bd (by omega) (by omega) (by omega) (by omega)⟩

set_option maxHeartbeats 1000000 in
theorem l02Turn_s (ax ay bx by' cx cy : Int) (n1 : nok (ax, ay) = true) (n2 : nok (bx, by') = true) (n3 : nok (cx, cy) = true) (w : World) :
    Calls Tryz.prog 90 #[.agg #[.int .i64 ax, .int .i64 ay], .agg #[.int .i64 bx, .int .i64 by'], .agg #[.int .i64 cx, .int .i64 cy]] w fun e w' => e = .returned (.int .i64 (turn0 (ax, ay) (bx, by') (cx, cy))) ∧ Ext w w' := by
  have b1 := nok_bd n1
  have b2 := nok_bd n2
  have b3 := nok_bd n3
  obtain ⟨m1, m2⟩ := turn_bd n1 n2 n3
  simp only at b1 b2 b3 m1 m2
  clear n1 n2 n3
  go_enter Tryz.func90, Tryz.ntmps90
  go_wp2
  go_ret
  exact ⟨ret_i rfl, (by repeat first | exact Ext.refl _ | assumption | refine Ext.drew ?_ | refine Ext.alloc ?_ _ | refine Ext.setCell ?_ (by simp) | refine Ext.setCell ?_ (by simp; omega) | refine Ext.trans ?_ (by assumption))⟩

/-- c is between a and b -/
def btw (a b c : P2) : Bool :=
  nok a && nok b && nok c && !(peq a b) && !(peq a c) && !(peq b c) && !(turn0 a b c != 0) && wi c.1 (imin a.1 b.1) (imax a.1 b.1) && wi c.2 (imin a.2 b.2) (imax a.2 b.2)

set_option maxHeartbeats 2000000 in
theorem IsBetween_i (ax ay bx by' cx cy : Int) (w : World) :
    Calls Tryz.prog 94 #[.agg #[.int .i64 ax, .int .i64 ay], .agg #[.int .i64 bx, .int .i64 by'], .agg #[.int .i64 cx, .int .i64 cy]] w fun e w' => e = .returned (.bool (btw (ax, ay) (bx, by') (cx, cy))) ∧ Ext w w' := by
  by_cases hn : (nok (ax, ay) && nok (bx, by') && nok (cx, cy)) = true
  · have ht : turn (ax, ay) (bx, by') (cx, cy) = turn0 (ax, ay) (bx, by') (cx, cy) := by simp only [turn, hn, if_true, turn0]
    go_enter Tryz.func94, Tryz.ntmps94
    go_wp2_with fail
    refine (nodesOk3 (ax, ay) (bx, by') (cx, cy) _ _ (heap_new _ (by simp))).mono ?_
    rintro e w1 ⟨rfl, hb⟩
    have k0 := hb.lit (b := w.heap.size) (o := 0) (v := .int .i64 ax) (by go_simp)
    have k1 := hb.lit (b := w.heap.size) (o := 1) (v := .int .i64 ay) (by go_simp)
    have k2 := hb.lit (b := w.heap.size + 1) (o := 0) (v := .int .i64 bx) (by go_simp)
    have k3 := hb.lit (b := w.heap.size + 1) (o := 1) (v := .int .i64 by') (by go_simp)
    have k4 := hb.lit (b := w.heap.size + 1 + 1) (o := 0) (v := .int .i64 cx) (by go_simp)
    have k5 := hb.lit (b := w.heap.size + 1 + 1) (o := 1) (v := .int .i64 cy) (by go_simp)
    have hx : Ext w w1 := (by repeat first | exact Ext.refl _ | assumption | refine Ext.drew ?_ | refine Ext.alloc ?_ _ | refine Ext.setCell ?_ (by simp) | refine Ext.setCell ?_ (by simp; omega) | refine Ext.trans ?_ (by assumption))
    rw [hn]
    clear hb
    go_wp2_with (first
      | (go_at_call 95; refine (TurnOf_i (ax, ay) (bx, by') (cx, cy) _).mono ?_; rintro e w2 ⟨rfl, hb2⟩; have hx2 := hx.trans hb2; have j0 := hb2.lit k0; have j1 := hb2.lit k1; have j2 := hb2.lit k2; have j3 := hb2.lit k3; have j4 := hb2.lit k4; have j5 := hb2.lit k5; clear hb2)
      | (go_at_call 31; refine (within_c _ _ _ _).mono ?_; rintro e w' ⟨rfl, rfl⟩))
    all_goals go_ret
    all_goals refine ⟨ret_b ?_, (by assumption)⟩
    all_goals simp_all [btw]
  · have hn' := eq_false_of_ne_true hn
    clear hn
    go_enter Tryz.func94, Tryz.ntmps94
    go_wp2_with fail
    refine (nodesOk3 (ax, ay) (bx, by') (cx, cy) _ _ (heap_new _ (by simp))).mono ?_
    rintro e w1 ⟨rfl, hb⟩
    have hx : Ext w w1 := (by repeat first | exact Ext.refl _ | assumption | refine Ext.drew ?_ | refine Ext.alloc ?_ _ | refine Ext.setCell ?_ (by simp) | refine Ext.setCell ?_ (by simp; omega) | refine Ext.trans ?_ (by assumption))
    rw [hn']
    clear hb
    go_wp2
    go_ret
    exact ⟨ret_b (by simp only [btw, hn', Bool.false_and]), hx⟩

set_option maxHeartbeats 2000000 in
theorem IsBetween_s (ax ay bx by' cx cy : Int) (w : World) :
    Calls Tryz.prog 88 #[.agg #[.int .i64 ax, .int .i64 ay], .agg #[.int .i64 bx, .int .i64 by'], .agg #[.int .i64 cx, .int .i64 cy]] w fun e w' => e = .returned (.bool (btw (ax, ay) (bx, by') (cx, cy))) ∧ Ext w w' := by
  go_enter Tryz.func88, Tryz.ntmps88
  go_wp2_with fail
  refine (NodeOk_s ax ay _).mono ?_
  rintro e w1 ⟨rfl, hb⟩
  have k0 := hb.lit (b := w.heap.size) (o := 0) (v := .int .i64 ax) (by go_simp)
  have k1 := hb.lit (b := w.heap.size) (o := 1) (v := .int .i64 ay) (by go_simp)
  have k2 := hb.lit (b := w.heap.size + 1) (o := 0) (v := .int .i64 bx) (by go_simp)
  have k3 := hb.lit (b := w.heap.size + 1) (o := 1) (v := .int .i64 by') (by go_simp)
  have k4 := hb.lit (b := w.heap.size + 1 + 1) (o := 0) (v := .int .i64 cx) (by go_simp)
  have k5 := hb.lit (b := w.heap.size + 1 + 1) (o := 1) (v := .int .i64 cy) (by go_simp)
  have hx : Ext w w1 := (by repeat first | exact Ext.refl _ | assumption | refine Ext.drew ?_ | refine Ext.alloc ?_ _ | refine Ext.setCell ?_ (by simp) | refine Ext.setCell ?_ (by simp; omega) | refine Ext.trans ?_ (by assumption))
  clear hb
  go_wp2_with (first
    | (go_at_call 69; refine (NodeOk_s _ _ _).mono ?_; rintro e w2 ⟨rfl, hb2⟩; have hx := hx.trans hb2; have k0 := hb2.lit k0; have k1 := hb2.lit k1; have k2 := hb2.lit k2; have k3 := hb2.lit k3; have k4 := hb2.lit k4; have k5 := hb2.lit k5; clear hb2)
    | (go_at_call 90; refine (l02Turn_s _ _ _ _ _ _ (by assumption) (by assumption) (by assumption) _).mono ?_; rintro e w2 ⟨rfl, hb2⟩; have hx := hx.trans hb2; have k0 := hb2.lit k0; have k1 := hb2.lit k1; have k2 := hb2.lit k2; have k3 := hb2.lit k3; have k4 := hb2.lit k4; have k5 := hb2.lit k5; clear hb2)
    | (go_at_call 28; refine (l01In_c _ _ _ _).mono ?_; rintro e w' ⟨rfl, rfl⟩))
  all_goals go_ret
  all_goals refine ⟨ret_b ?_, (by assumption)⟩
  all_goals simp_all [btw]
end Go.Proofs.YtdhmjhoaegdfjaaGreat

namespace Go.Proofs.YtdhmjhoaegdfjaaGreat
/-! Plain words: leads that cross, nodes on leads, windows. No program in sight. -/
theorem lok_spec {ns : List P2} {p q : Int} (h : lok ns (p, q) = true) : ∃ i j : Nat, p = i ∧ q = j ∧ i < j ∧ i < ns.length ∧ j < ns.length ∧ nok (gp ns p) = true ∧ nok (gp ns q) = true ∧ gp ns p ≠ gp ns q := by
  simp only [lok, Bool.and_eq_true, decide_eq_true_eq] at h
  obtain ⟨⟨⟨⟨⟨h1, h2⟩, h3⟩, h4⟩, h5⟩, h6⟩ := h
  exact ⟨p.toNat, q.toNat, by omega, by omega, by omega, by omega, by omega, h4, h5, h6⟩

def sgn (a b c d : P2) : Bool := decide (turn0 a b c * turn0 a b d < 0) && decide (turn0 c d a * turn0 c d b < 0)
/-- do two leads cross, their ends given -/
def dox4 (a b c d : P2) : Bool :=
  (peq a c && peq b d || (peq a d && peq b c)) || (btw a b c || btw a b d || btw c d a || btw c d b) || sgn a b c d
def dox (ns : List P2) (l m : P2) : Bool := lok ns l && lok ns m && dox4 (gp ns l.1) (gp ns l.2) (gp ns m.1) (gp ns m.2)

theorem turn0_bd {a b c : P2} (n1 : nok a = true) (n2 : nok b = true) (n3 : nok c = true) : -800 ≤ turn0 a b c ∧ turn0 a b c ≤ 800 := by
  obtain ⟨m1, m2⟩ := turn_bd n1 n2 n3
  unfold turn0; omega
theorem mul_bd8 {x y : Int} (h1 : -800 ≤ x ∧ x ≤ 800) (h3 : -800 ≤ y ∧ y ≤ 800) : -640000 ≤ x * y ∧ x * y ≤ 640000 := by
  have := Int.mul_nonneg (show 0 ≤ 800 - x by omega) (show 0 ≤ 800 - y by omega)
  have := Int.mul_nonneg (show 0 ≤ 800 + x by omega) (show 0 ≤ 800 - y by omega)
  have := Int.mul_nonneg (show 0 ≤ 800 - x by omega) (show 0 ≤ 800 + y by omega)
  have := Int.mul_nonneg (show 0 ≤ 800 + x by omega) (show 0 ≤ 800 + y by omega)
  simp only [Int.sub_mul, Int.add_mul, Int.mul_sub, Int.mul_add] at *
  omega
theorem turn_eq {a b c : P2} (n1 : nok a = true) (n2 : nok b = true) (n3 : nok c = true) : turn a b c = turn0 a b c := by simp [turn, turn0, n1, n2, n3]


/-- the node n is on the lead l -/
def onl (ns : List P2) (l n : P2) : Bool := lok ns l && (peq n (gp ns l.1) || peq n (gp ns l.2) || btw (gp ns l.1) (gp ns l.2) n)
end Go.Proofs.YtdhmjhoaegdfjaaGreat

namespace Go.Proofs.YtdhmjhoaegdfjaaGreat
open Go.RowKit Go.Sort Go.BigFrame

theorem Pr.gp_ {w : World} {B : Nat} {A : Option Addr} {l : List P2} (h : Pr w B A l) {k : Nat} (hk : k < l.length) :
    ∃ b off, A = some ⟨b, off, none⟩ ∧ b < B ∧ w.cell? ⟨b, off + k * 2, none⟩ = some (.int .i64 (gp l k).1) ∧ w.cell? ⟨b, off + k * 2 + 1, none⟩ = some (.int .i64 (gp l k).2) := by
  rw [gp_nat l k hk]; exact h.at_ hk

set_option maxRecDepth 100000 in
set_option maxHeartbeats 2000000 in
theorem IsOnLead_i (A : Option Addr) (c : Nat) (ns : List (Int × Int)) (p q x y : Int) (w : World) (hl : ns.length ≤ 2000000) (h : Pr w w.heap.size A ns) :
    Calls Tryz.prog 79 #[.slice A ns.length c, .agg #[.int .i64 p, .int .i64 q], .agg #[.int .i64 x, .int .i64 y]] w fun e w' => e = .returned (.bool (onl ns (p, q) (x, y))) ∧ Ext w w' := by
  by_cases h1 : lok ns (p, q) = true
  · obtain ⟨i, j, rfl, rfl, hij, hi, hj, n1, n2, -⟩ := lok_spec h1
    have Hd : Hid (onl ns (↑i, ↑j) (x, y) = (peq (x, y) (gp ns i) || peq (x, y) (gp ns j) || btw (gp ns i) (gp ns j) (x, y))) := Lib.hid (by simp only [onl, h1, Bool.true_and])
    go_enter Tryz.func79, Tryz.ntmps79
    go_wp2_with fail
    refine (LeadOk_i A c ns _ _ _ hl (h.ext (by repeat first | exact Ext.refl _ | assumption | refine Ext.drew ?_ | refine Ext.alloc ?_ _ | refine Ext.setCell ?_ (by simp) | refine Ext.setCell ?_ (by simp; omega) | refine Ext.trans ?_ (by assumption)))).mono ?_
    rintro e w1 ⟨rfl, hb⟩
    have k0 := hb.lit (b := w.heap.size) (o := 0) (v := .int .i64 i) (by go_simp)
    have k1 := hb.lit (b := w.heap.size) (o := 1) (v := .int .i64 j) (by go_simp)
    have e5 := hb.lit (b := w.heap.size + 1) (o := 0) (v := .int .i64 x) (by go_simp)
    have e6 := hb.lit (b := w.heap.size + 1) (o := 1) (v := .int .i64 y) (by go_simp)
    have hx : Ext w w1 := (by repeat first | exact Ext.refl _ | assumption | refine Ext.drew ?_ | refine Ext.alloc ?_ _ | refine Ext.setCell ?_ (by simp) | refine Ext.setCell ?_ (by simp; omega) | refine Ext.trans ?_ (by assumption))
    rw [h1]
    clear hb
    obtain ⟨b, off, rfl, hbb, c1, c2⟩ := (h.ext hx).gp_ hi
    obtain ⟨b', off', he, hbb', c3, c4⟩ := (h.ext hx).gp_ hj
    obtain ⟨rfl, rfl⟩ : b = b' ∧ off = off' := by simpa using he
    clear he hbb'
    go_upto_region 3 with fail
    go_cut [7, 8] (fun s7 s8 wx => ∃ g7 g8, s7 = .pointer (some ⟨g7, 0, none⟩) ∧ s8 = .pointer (some ⟨g8, 0, none⟩) ∧ wx.cell? ⟨g7, 0, none⟩ = some (.int .i64 (gp ns i).1) ∧ wx.cell? ⟨g7, 1, none⟩ = some (.int .i64 (gp ns i).2) ∧ wx.cell? ⟨g8, 0, none⟩ = some (.int .i64 (gp ns j).1) ∧ wx.cell? ⟨g8, 1, none⟩ = some (.int .i64 (gp ns j).2) ∧ Ext w1 wx)
    case first =>
      have d0 := cell_regrown k0
      have d1 := cell_regrown k1
      have d2 := cell_regrown c1
      have d3 := cell_regrown c2
      have d4 := cell_regrown c3
      have d5 := cell_regrown c4
      refine rx_open [(true, 0, some 13, 1), (true, 0, some 14, 16), (true, 2, some 15, 16384), (true, 5, some 16, 40960), (true, 8, some 17, 65536), (true, 0, some 18, 1), (true, 0, some 19, 16), (true, 64, some 20, 524288), (true, 160, some 21, 1310720), (true, 256, some 22, 2097152), (false, 0, some 7, 0), (false, 0, some 8, 0), (false, 3103, none, 131200), (false, 8191, none, 4194560)] 8192 14 mixd rfl (by kernel_rfl) (by kernel_rfl) (by kernel_rfl) ?_
      refine rx_run (run := [0, 1, 2, 3, 4, 5, 6, 7, 8, 9]) (k := 4) (m' := 1023) rfl (by kernel_rfl) (by kernel_rfl) (by kernel_rfl) (fm_cons rfl <| fm_cons rfl <| fm_cons rfl <| fm_cons rfl <| fm_cons rfl <| fm_cons rfl <| fm_cons rfl <| fm_cons rfl <| fm_cons rfl <| fm_cons rfl <| List.filterMap_nil) (by repeat first | exact Ext.refl _ | assumption | refine Ext.drew ?_ | refine Ext.alloc ?_ _ | refine Ext.setCell ?_ (by simp) | refine Ext.setCell ?_ (by simp; omega) | refine Ext.trans ?_ (by assumption)) ?_
      repeat (go_big_quiet_step ((fail)))
      refine wpQuiet_nil ?_
      refine rx_two 10 11 (k := 3) (mi := 2047) (mj := 3071) rfl rfl rfl (by kernel_rfl) (by kernel_rfl) (by kernel_rfl) ?_ ?_
      go_wp2
      refine rx_on (by repeat first | exact Ext.refl _ | assumption | refine Ext.drew ?_ | refine Ext.alloc ?_ _ | refine Ext.setCell ?_ (by simp) | refine Ext.setCell ?_ (by simp; omega) | refine Ext.trans ?_ (by assumption)) ?_
      refine rx_op 11 (k := 2) (m' := 4095) rfl rfl (by kernel_rfl) (by kernel_rfl) ?_
      go_wp2
      refine rx_on (by repeat first | exact Ext.refl _ | assumption | refine Ext.drew ?_ | refine Ext.alloc ?_ _ | refine Ext.setCell ?_ (by simp) | refine Ext.setCell ?_ (by simp; omega) | refine Ext.trans ?_ (by assumption)) ?_
      refine rx_op 12 (k := 1) (m' := 8191) rfl rfl (by kernel_rfl) (by kernel_rfl) ?_
      go_wp2
      refine rx_on (by repeat first | exact Ext.refl _ | assumption | refine Ext.drew ?_ | refine Ext.alloc ?_ _ | refine Ext.setCell ?_ (by simp) | refine Ext.setCell ?_ (by simp; omega) | refine Ext.trans ?_ (by assumption)) ?_
      refine rx_op 13 (k := 0) (m' := 16383) rfl rfl (by kernel_rfl) (by kernel_rfl) ?_
      go_wp2
      refine rx_lst (by decide) ?_
      refine rx_end (by kernel_rfl) ?_
      rotate_left
      go_wp2
      refine rx_on (by repeat first | exact Ext.refl _ | assumption | refine Ext.drew ?_ | refine Ext.alloc ?_ _ | refine Ext.setCell ?_ (by simp) | refine Ext.setCell ?_ (by simp; omega) | refine Ext.trans ?_ (by assumption)) ?_
      refine rx_op 10 (k := 2) (m' := 4095) rfl rfl (by kernel_rfl) (by kernel_rfl) ?_
      go_wp2
      refine rx_on (by repeat first | exact Ext.refl _ | assumption | refine Ext.drew ?_ | refine Ext.alloc ?_ _ | refine Ext.setCell ?_ (by simp) | refine Ext.setCell ?_ (by simp; omega) | refine Ext.trans ?_ (by assumption)) ?_
      refine rx_op 12 (k := 1) (m' := 8191) rfl rfl (by kernel_rfl) (by kernel_rfl) ?_
      go_wp2
      refine rx_on (by repeat first | exact Ext.refl _ | assumption | refine Ext.drew ?_ | refine Ext.alloc ?_ _ | refine Ext.setCell ?_ (by simp) | refine Ext.setCell ?_ (by simp; omega) | refine Ext.trans ?_ (by assumption)) ?_
      refine rx_op 13 (k := 0) (m' := 16383) rfl rfl (by kernel_rfl) (by kernel_rfl) ?_
      go_wp2
      refine rx_lst (by decide) ?_
      refine rx_end (by kernel_rfl) ?_
      rotate_left
      all_goals (go_wp2; go_meet; exact ⟨_, _, rfl, rfl, by go_simp, by go_simp, by go_simp, by go_simp, (by repeat first | exact Ext.refl _ | assumption | refine Ext.drew ?_ | refine Ext.alloc ?_ _ | refine Ext.setCell ?_ (by simp) | refine Ext.setCell ?_ (by simp; omega) | refine Ext.trans ?_ (by assumption))⟩)
    case rest =>
      obtain ⟨g7, g8, rfl, rfl, e1, e2, e3, e4, hx7⟩ := hcut
      have e5 := hx7.lit e5
      have e6 := hx7.lit e6
      have hx := hx.trans hx7
      clear c1 c2 c3 c4 k0 k1 hx7
      obtain ⟨w4, rfl⟩ : ∃ x : World, x = wc := ⟨_, rfl⟩
      generalize gp ns i = a at *
      generalize gp ns j = b at *
      obtain ⟨ax, ay⟩ := a
      obtain ⟨bx, by'⟩ := b
      go_wp2_with (go_at_call 94; refine (IsBetween_i _ _ _ _ _ _ _).mono ?_; rintro e w2 ⟨rfl, hb2⟩; have hx := hx.trans hb2; clear hb2)
      all_goals go_ret
      all_goals refine ⟨ret_b ?_, (by assumption)⟩
      all_goals (rw [Hd.out]; simp_all)
  · have h1' := eq_false_of_ne_true h1
    have hd : onl ns (p, q) (x, y) = false := by simp only [onl, h1', Bool.false_and]
    clear h1
    go_enter Tryz.func79, Tryz.ntmps79
    go_wp2_with fail
    refine (LeadOk_i A c ns _ _ _ hl (h.ext (by repeat first | exact Ext.refl _ | assumption | refine Ext.drew ?_ | refine Ext.alloc ?_ _ | refine Ext.setCell ?_ (by simp) | refine Ext.setCell ?_ (by simp; omega) | refine Ext.trans ?_ (by assumption)))).mono ?_
    rintro e w1 ⟨rfl, hb⟩
    have hx : Ext w w1 := (by repeat first | exact Ext.refl _ | assumption | refine Ext.drew ?_ | refine Ext.alloc ?_ _ | refine Ext.setCell ?_ (by simp) | refine Ext.setCell ?_ (by simp; omega) | refine Ext.trans ?_ (by assumption))
    rw [h1']
    clear hb
    go_wp2
    go_ret
    exact ⟨ret_b hd.symm, hx⟩

set_option maxRecDepth 100000 in
set_option maxHeartbeats 2000000 in
theorem IsOnLead_s (A : Option Addr) (c : Nat) (ns : List (Int × Int)) (p q x y : Int) (w : World) (hl : ns.length ≤ 2000000) (h : Pr w w.heap.size A ns) :
    Calls Tryz.prog 72 #[.slice A ns.length c, .agg #[.int .i64 p, .int .i64 q], .agg #[.int .i64 x, .int .i64 y]] w fun e w' => e = .returned (.bool (onl ns (p, q) (x, y))) ∧ Ext w w' := by
  by_cases h1 : lok ns (p, q) = true
  · obtain ⟨i, j, rfl, rfl, hij, hi, hj, n1, n2, -⟩ := lok_spec h1
    have Hd : Hid (onl ns (↑i, ↑j) (x, y) = (peq (x, y) (gp ns i) || peq (x, y) (gp ns j) || btw (gp ns i) (gp ns j) (x, y))) := Lib.hid (by simp only [onl, h1, Bool.true_and])
    go_enter Tryz.func72, Tryz.ntmps72
    go_wp2_with fail
    refine (LeadOk_s A c ns _ _ _ hl (h.ext (by repeat first | exact Ext.refl _ | assumption | refine Ext.drew ?_ | refine Ext.alloc ?_ _ | refine Ext.setCell ?_ (by simp) | refine Ext.setCell ?_ (by simp; omega) | refine Ext.trans ?_ (by assumption)))).mono ?_
    rintro e w1 ⟨rfl, hb⟩
    have k0 := hb.lit (b := w.heap.size) (o := 0) (v := .int .i64 i) (by go_simp)
    have k1 := hb.lit (b := w.heap.size) (o := 1) (v := .int .i64 j) (by go_simp)
    have e5 := hb.lit (b := w.heap.size + 1) (o := 0) (v := .int .i64 x) (by go_simp)
    have e6 := hb.lit (b := w.heap.size + 1) (o := 1) (v := .int .i64 y) (by go_simp)
    have hx : Ext w w1 := (by repeat first | exact Ext.refl _ | assumption | refine Ext.drew ?_ | refine Ext.alloc ?_ _ | refine Ext.setCell ?_ (by simp) | refine Ext.setCell ?_ (by simp; omega) | refine Ext.trans ?_ (by assumption))
    rw [h1]
    clear hb
    obtain ⟨b, off, rfl, hbb, c1, c2⟩ := (h.ext hx).gp_ hi
    obtain ⟨b', off', he, hbb', c3, c4⟩ := (h.ext hx).gp_ hj
    obtain ⟨rfl, rfl⟩ : b = b' ∧ off = off' := by simpa using he
    clear he hbb'
    go_upto_region 3 with fail
    go_cut [7] (fun s wx => ∃ g, s = .pointer (some ⟨g, 0, none⟩) ∧ wx.cell? ⟨g, 0, none⟩ = some (.int .i64 (gp ns i).1) ∧ wx.cell? ⟨g, 1, none⟩ = some (.int .i64 (gp ns i).2) ∧ Ext w1 wx)
    case first =>
      go_wp2
      go_meet
      exact ⟨_, rfl, by go_simp, by go_simp, (by repeat first | exact Ext.refl _ | assumption | refine Ext.drew ?_ | refine Ext.alloc ?_ _ | refine Ext.setCell ?_ (by simp) | refine Ext.setCell ?_ (by simp; omega) | refine Ext.trans ?_ (by assumption))⟩
    case rest =>
      obtain ⟨g7, rfl, e1, e2, hx7⟩ := hcut
      have e5 := hx7.lit e5
      have e6 := hx7.lit e6
      have k0 := hx7.lit k0
      have k1 := hx7.lit k1
      have c3 := hx7.lit c3
      have c4 := hx7.lit c4
      have hx := hx.trans hx7
      clear c1 c2 hx7
      obtain ⟨w3, rfl⟩ : ∃ x : World, x = wc := ⟨_, rfl⟩
      go_upto_region 4 with fail
      go_cut [8] (fun s wx => ∃ g, s = .pointer (some ⟨g, 0, none⟩) ∧ wx.cell? ⟨g, 0, none⟩ = some (.int .i64 (gp ns j).1) ∧ wx.cell? ⟨g, 1, none⟩ = some (.int .i64 (gp ns j).2) ∧ Ext w3 wx)
      case first =>
        go_wp2
        go_meet
        exact ⟨_, rfl, by go_simp, by go_simp, (by repeat first | exact Ext.refl _ | assumption | refine Ext.drew ?_ | refine Ext.alloc ?_ _ | refine Ext.setCell ?_ (by simp) | refine Ext.setCell ?_ (by simp; omega) | refine Ext.trans ?_ (by assumption))⟩
      case rest =>
        obtain ⟨g8, rfl, e3, e4, hx7⟩ := hcut
        have e1 := hx7.lit e1
        have e2 := hx7.lit e2
        have e5 := hx7.lit e5
        have e6 := hx7.lit e6
        have hx := hx.trans hx7
        clear c3 c4 k0 k1 hx7
        obtain ⟨w4, rfl⟩ : ∃ x : World, x = wc := ⟨_, rfl⟩
        generalize gp ns i = a at *
        generalize gp ns j = b at *
        obtain ⟨ax, ay⟩ := a
        obtain ⟨bx, by'⟩ := b
        go_wp2_with (go_at_call 88; refine (IsBetween_s _ _ _ _ _ _ _).mono ?_; rintro e w2 ⟨rfl, hb2⟩; have hx := hx.trans hb2; clear hb2)
        all_goals go_ret
        all_goals refine ⟨ret_b ?_, (by assumption)⟩
        all_goals (rw [Hd.out]; simp_all)
  · have h1' := eq_false_of_ne_true h1
    have hd : onl ns (p, q) (x, y) = false := by simp only [onl, h1', Bool.false_and]
    clear h1
    go_enter Tryz.func72, Tryz.ntmps72
    go_wp2_with fail
    refine (LeadOk_s A c ns _ _ _ hl (h.ext (by repeat first | exact Ext.refl _ | assumption | refine Ext.drew ?_ | refine Ext.alloc ?_ _ | refine Ext.setCell ?_ (by simp) | refine Ext.setCell ?_ (by simp; omega) | refine Ext.trans ?_ (by assumption)))).mono ?_
    rintro e w1 ⟨rfl, hb⟩
    have hx : Ext w w1 := (by repeat first | exact Ext.refl _ | assumption | refine Ext.drew ?_ | refine Ext.alloc ?_ _ | refine Ext.setCell ?_ (by simp) | refine Ext.setCell ?_ (by simp; omega) | refine Ext.trans ?_ (by assumption))
    rw [h1']
    clear hb
    go_wp2
    go_ret
    exact ⟨ret_b hd.symm, hx⟩
end Go.Proofs.YtdhmjhoaegdfjaaGreat

namespace Go.Proofs.YtdhmjhoaegdfjaaGreat
/-! Plain words: a window that is right. -/
def hasP (l : List P2) (p : P2) : Bool := l.any (fun q => peq p q)
theorem hasP_no {l : List P2} {p : P2} : hasP l p = false ↔ ∀ j, j < l.length → peq p (gp l j) = false := by
  rw [hasP, List.any_eq_false]
  constructor
  · intro h j hj
    have := h l[j] (List.getElem_mem hj)
    rw [← gp_nat l j hj] at this
    simpa using this
  · intro h q hq
    obtain ⟨j, hj, rfl⟩ := List.getElem_of_mem hq
    rw [← gp_nat l j hj, h j hj]
    simp
theorem gp_take (l : List P2) (k j : Nat) (hj : j < k) (hk : k ≤ l.length) : gp (l.take k) j = gp l j := by
  rw [gp_nat _ _ (by rw [List.length_take]; omega), gp_nat _ _ (by omega), List.getElem_take]

/-- what is asked of lead i -/
def leadW (ns ls : List P2) (i : Nat) : Prop :=
  lok ns (gp ls i) = true ∧ (∀ j, j < i → dox ns (gp ls i) (gp ls j) = false) ∧ ∀ k : Nat, k < ns.length → (k : Int) ≠ (gp ls i).1 → (k : Int) ≠ (gp ls i).2 → onl ns (gp ls i) (gp ns k) = false
structure WOk (ns ls : List P2) : Prop where
  lo : 1 ≤ ns.length
  hi : ns.length ≤ 12
  le : ls.length ≤ 20
  ok : ∀ i, i < ns.length → nok (gp ns i) = true
  ne : ∀ i, i < ns.length → ∀ j, j < i → peq (gp ns i) (gp ns j) = false
  ld : ∀ i, i < ls.length → leadW ns ls i
def wok (ns ls : List P2) : Bool :=
  decide (1 ≤ ns.length) && decide (ns.length ≤ 12) && decide (ls.length ≤ 20) && (List.range ns.length).all (fun i => nok (gp ns (i : Nat))) &&
  (List.range ns.length).all (fun i => (List.range i).all (fun j => !peq (gp ns (i : Nat)) (gp ns (j : Nat)))) &&
  (List.range ls.length).all (fun i => lok ns (gp ls (i : Nat)) && (List.range i).all (fun j => !dox ns (gp ls (i : Nat)) (gp ls (j : Nat))) &&
    (List.range ns.length).all (fun k => decide ((k : Int) = (gp ls (i : Nat)).1) || decide ((k : Int) = (gp ls (i : Nat)).2) || !onl ns (gp ls (i : Nat)) (gp ns (k : Nat))))
theorem wok_iff {ns ls : List P2} : wok ns ls = true ↔ WOk ns ls := by
  unfold wok
  simp only [Bool.and_eq_true, decide_eq_true_eq, List.all_eq_true, List.mem_range, Bool.not_eq_true', Bool.or_eq_true]
  constructor
  · rintro ⟨⟨⟨⟨⟨h1, h2⟩, h3⟩, h4⟩, h5⟩, h6⟩
    refine ⟨h1, h2, h3, h4, h5, fun i hi => ⟨(h6 i hi).1.1, (h6 i hi).1.2, fun k hk n1 n2 => ?_⟩⟩
    rcases (h6 i hi).2 k hk with (h | h) | h
    · exact absurd h n1
    · exact absurd h n2
    · exact h
  · intro h
    refine ⟨⟨⟨⟨⟨h.lo, h.hi⟩, h.le⟩, h.ok⟩, h.ne⟩, fun i hi => ⟨⟨(h.ld i hi).1, (h.ld i hi).2.1⟩, fun k hk => ?_⟩⟩
    by_cases n1 : (k : Int) = (gp ls i).1
    · exact .inl (.inl n1)
    · by_cases n2 : (k : Int) = (gp ls i).2
      · exact .inl (.inr n2)
      · exact .inr ((h.ld i hi).2.2 k hk n1 n2)
theorem wok_no {ns ls : List P2} (h : ¬ WOk ns ls) : wok ns ls = false := by
  rw [Bool.eq_false_iff]; exact fun e => h (wok_iff.1 e)
end Go.Proofs.YtdhmjhoaegdfjaaGreat

namespace Go.Proofs.YtdhmjhoaegdfjaaGreat
theorem peq_comm (p q : P2) : peq p q = peq q p := by simp only [peq, eq_comm]
theorem sgn_comm (a b c d : P2) : sgn a b c d = sgn c d a b := by unfold sgn; exact Bool.and_comm _ _
theorem dox4_comm (a b c d : P2) : dox4 a b c d = dox4 c d a b := by
  unfold dox4
  rw [sgn_comm a b c d, peq_comm a c, peq_comm b d, peq_comm a d, peq_comm b c]
  congr 1
  congr 1
  · congr 1; exact Bool.and_comm _ _
  · cases btw a b c <;> cases btw a b d <;> cases btw c d a <;> cases btw c d b <;> rfl
theorem dox_comm (ns : List P2) (l m : P2) : dox ns l m = dox ns m l := by
  unfold dox
  rw [dox4_comm, Bool.and_comm (lok ns l)]
end Go.Proofs.YtdhmjhoaegdfjaaGreat
