import Derived.Test.YtpainmnekgnpeaaChecked
import Derived.Test.YtpainmnekgnpeaaM1
import Derived.Test.YtpainmnekgnpeaaB0
import Derived.Outline
import Derived.Deep.QuietTactic
import Derived.BigQuiet
import Derived.WalkLawsBesides
import Derived.WalkSpells
import Derived.Deep.RegionHeld3
import Derived.Lib.Hide
namespace Go.Proofs.Ytpainmnekgnpeaa
open Go.RowKit

@[go_sem] theorem eqgN : Try.prog.eqGuardType Try.prog.depth 47 = false := by kernel_rfl
@[go_sem] theorem sihN : Try.prog.stoodInHeld 47 = false := by kernel_rfl

/-- two pairs are the same -/
def peq (p q : Int × Int) : Bool := decide (p.1 = q.1) && decide (p.2 = q.2)
theorem peq_iff {p q : Int × Int} : peq p q = true ↔ p = q := by
  obtain ⟨a, b⟩ := p; obtain ⟨c, d⟩ := q
  simp [peq]
theorem peq_no {p q : Int × Int} : peq p q = false ↔ p ≠ q := by rw [← Bool.not_eq_true, peq_iff]
theorem eqFN (x y x' y' : Int) (w : World) : (Op.equalIn 10000 47 (.agg #[.int .i64 x, .int .i64 y]) (.agg #[.int .i64 x', .int .i64 y'])).run Try.prog w = .ok (peq (x, y) (x', y')) w := by
  unfold peq
  by_cases h1 : x = x' <;> by_cases h2 : y = y' <;> simp [go_sem, h1, h2]
@[go_sem ↓] theorem eqlN (x y x' y' : Int) (w : World) : (binOp .eql 47 (.agg #[.int .i64 x, .int .i64 y]) (.agg #[.int .i64 x', .int .i64 y'])).run Try.prog w = .ok (.bool (peq (x, y) (x', y'))) w := by
  rw [run_eql_struct, eqFN]; rfl
@[go_sem ↓] theorem neqN (x y x' y' : Int) (w : World) : (binOp .neq 47 (.agg #[.int .i64 x, .int .i64 y]) (.agg #[.int .i64 x', .int .i64 y'])).run Try.prog w = .ok (.bool (!(peq (x, y) (x', y')))) w := by
  rw [run_neq_struct, eqFN]; rfl
def imin (a b : Int) : Int := min a b
def imax (a b : Int) : Int := max a b
@[go_sem ↓] theorem min_run (ty : TypeId) (ats : Array TypeId) (a b : Int) (w : World) : (Builtin.min_ ats ty #[.int .i64 a, .int .i64 b]).run Try.prog w = .ok (.int .i64 (imin a b)) w := by
  have h : (if b < a then b else a) = min a b := by rw [Int.min_def]; split <;> split <;> omega
  simp [Builtin.min_, Builtin.min2, imin, h]
@[go_sem ↓] theorem max_run (ty : TypeId) (ats : Array TypeId) (a b : Int) (w : World) : (Builtin.max_ ats ty #[.int .i64 a, .int .i64 b]).run Try.prog w = .ok (.int .i64 (imax a b)) w := by
  have h : (if a < b then b else a) = max a b := by rw [Int.max_def]; split <;> split <;> omega
  simp [Builtin.max_, Builtin.max2, imax, h]

def wi (n lo hi : Int) : Bool := decide (lo ≤ n) && decide (n ≤ hi)

set_option maxHeartbeats 400000 in
theorem within_c (n lo hi : Int) (w : World) : Calls Try.prog 98 #[.int .i64 n, .int .i64 lo, .int .i64 hi] w fun e w' => e = .returned (.bool (wi n lo hi)) ∧ w = w' := by
  by_cases h : lo ≤ n
  all_goals
    go_enter Try.func98, Try.ntmps98
    go_wp2
    go_ret
    exact ⟨ret_b (by simp [wi]; omega), rfl⟩

set_option maxHeartbeats 400000 in
theorem l01In_c (n lo hi : Int) (w : World) : Calls Try.prog 67 #[.int .i64 n, .int .i64 lo, .int .i64 hi] w fun e w' => e = .returned (.bool (wi n lo hi)) ∧ w = w' := by
  by_cases h : lo ≤ n
  all_goals
    go_enter Try.func67, Try.ntmps67
    go_wp2
    go_ret
    exact ⟨ret_b (by simp [wi]; omega), rfl⟩

def nok (p : Int × Int) : Bool := wi p.1 0 20 && wi p.2 0 20

set_option maxHeartbeats 400000 in
theorem NodeOk_i (x y : Int) (w : World) : Calls Try.prog 113 #[.agg #[.int .i64 x, .int .i64 y]] w fun e w' => e = .returned (.bool (nok (x, y))) ∧ Ext w w' := by
  go_enter Try.func113, Try.ntmps113
  go_wp2_with (go_at_call 98; refine (within_c _ _ _ _).mono ?_; rintro e w' ⟨rfl, rfl⟩)
  all_goals
    go_ret
    exact ⟨ret_b (by simp [nok, *]), (Ext.refl _).alloc _⟩

set_option maxHeartbeats 400000 in
theorem NodeOk_s (x y : Int) (w : World) : Calls Try.prog 94 #[.agg #[.int .i64 x, .int .i64 y]] w fun e w' => e = .returned (.bool (nok (x, y))) ∧ Ext w w' := by
  go_enter Try.func94, Try.ntmps94
  go_wp2_with (go_at_call 67; refine (l01In_c _ _ _ _).mono ?_; rintro e w' ⟨rfl, rfl⟩)
  all_goals
    go_ret
    exact ⟨ret_b (by simp [nok, *]), (Ext.refl _).alloc _⟩

set_option maxHeartbeats 400000 in
theorem nodesOk_c (A : Option Addr) (c : Nat) (l : List (Int × Int)) (w : World) (hl : l.length ≤ 2000000) (h : Pr w w.heap.size A l) :
    Calls Try.prog 99 #[.slice A l.length c] w fun e w' => e = .returned (.bool (l.all nok)) ∧ Ext w w' := by
  go_enter Try.func99, Try.ntmps99
  go_wp2
  go_loopw [7] (fun i wr => ∃ k : Nat, k ≤ l.length ∧ i = .int .i64 k ∧ (l.take k).all nok = true ∧ Ext w wr) (fun i _ => l.length - (intOf i).toNat)
  case atStart => exact ⟨0, by omega, rfl, rfl, Ext.refl _⟩
  case round =>
    obtain ⟨k, hk, rfl, hall, hb⟩ := hrel
    by_cases hlt : k < l.length
    · obtain ⟨b, off, rfl, hbb, h1, h2⟩ := (h.below hb).at_ hlt
      go_wp2_with (go_at_call 113; refine (NodeOk_i _ _ _).mono ?_; rintro e w1 ⟨rfl, hb1⟩)
      · have hno : nok l[k] = false := by simp_all
        go_ret
        exact ⟨ret_b (by symm; rw [Bool.eq_false_iff]; intro hc; rw [List.all_eq_true] at hc; have := hc _ (List.getElem_mem hlt); rw [hno] at this; cases this), (hb.alloc _).trans hb1⟩
      · have hyes : nok l[k] = true := by simp_all
        go_roundw
        case rel => exact ⟨k + 1, by omega, by go_num, by rw [List.take_succ_eq_append_getElem hlt, List.all_append, hall]; simp [hyes], (hb.alloc _).trans hb1⟩
        case measure => simp [intOf]; omega
    · go_wp2
      go_ret
      exact ⟨ret_b (by rw [List.take_of_length_le (by omega)] at hall; exact hall.symm), hb⟩
end Go.Proofs.Ytpainmnekgnpeaa
