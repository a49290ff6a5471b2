import Derived.Test.YtpainmnekgnpeaaA2
import Derived.Test.YtpainmnekgnpeaaR1
namespace Go.Proofs.Ytpainmnekgnpeaa
open Go.RowKit Go.Sort Go.BigFrame
def gp (l : List (Int × Int)) (i : Int) : Int × Int := l.getD i.toNat (0, 0)
/-- a lead that is right for the nodes -/
def lok (ns : List (Int × Int)) (l : Int × Int) : Bool := decide (0 ≤ l.1) && decide (l.1 < l.2) && decide (l.2 < ns.length) && nok (gp ns l.1) && nok (gp ns l.2) && decide (gp ns l.1 ≠ gp ns l.2)

theorem nodesOk2 (a b : P2) (g : Nat) (w : World) (h : w.heap[g]? = some (.cells #[.int .i64 a.1, .int .i64 a.2, .int .i64 b.1, .int .i64 b.2] 47 (0, 0))) :
    Calls Try.prog 99 #[.slice (some ⟨g, 0, none⟩) 2 2] w fun e w' => e = .returned (.bool (nok a && nok b)) ∧ Ext w w' := by
  have hg : g < w.heap.size := by
    rcases Nat.lt_or_ge g w.heap.size with h' | h'
    · exact h'
    · rw [Array.getElem?_eq_none h'] at h; cases h
  have := nodesOk_c (some ⟨g, 0, none⟩) 2 [a, b] w (by simp) ⟨rfl, fun _ => ⟨g, 0, rfl, hg, fun j u hu => by
    rw [cell_of_row w g (0 + j) _ _ _ h]; simpa [pc] using hu⟩⟩
  simpa [Bool.and_assoc] using this



theorem rg_b {P : Program} {f : FuncId} {args : Array Value} {w : World} {d : Nat} {os : Array Obj} {b b' : Bool} (hb : b = b')
    (h : Calls P f args (grow (redrawn w d) os) fun e w' => e = .returned (.bool b) ∧ Ext (grow (redrawn w d) os) w') : Calls P f args (grow (redrawn w d) os) fun e w'' => e = .returned (.bool b') ∧ ∃ p : Regrown, w'' = grow (redrawn w p.d) p.os := by
  subst hb; exact Calls.regrown_of h

theorem gp_nat (l : List P2) (k : Nat) (h : k < l.length) : gp l k = l[k] := by simp [gp, h]
theorem lok_no1 {ns : List P2} {p q : Int} (h : ¬ 0 ≤ p) : lok ns (p, q) = false := by simp [lok, h]
theorem lok_no2 {ns : List P2} {p q : Int} (h : ¬ p < q) : lok ns (p, q) = false := by simp [lok, h]
theorem lok_no3 {ns : List P2} {p q : Int} (h : ¬ q < ns.length) : lok ns (p, q) = false := by simp [lok, h]
theorem lok_no4 {ns : List P2} {p q : Nat} (hp : p < ns.length) (hq : q < ns.length) (h : (nok ns[p] && nok ns[q]) = false) : lok ns (p, q) = false := by
  simp only [lok, gp_nat _ _ hp, gp_nat _ _ hq, Bool.and_assoc]
  rw [← Bool.and_assoc (nok _)]
  simp [h]
theorem lok_yes {ns : List P2} {p q : Nat} (hp : p < ns.length) (hq : q < ns.length) (hpq : (p : Int) < q) (h : (nok ns[p] && nok ns[q]) = true) : lok ns (p, q) = !(peq (ns[p].1, ns[p].2) (ns[q].1, ns[q].2)) := by
  have h' : nok ns[p] = true ∧ nok ns[q] = true := by simpa using h
  have h2 : (q : Int) < ns.length := by omega
  have h1 : (0 : Int) ≤ p := by omega
  simp only [lok, gp_nat _ _ hp, gp_nat _ _ hq, h'.1, h'.2, hpq, h2, h1, decide_true, Bool.and_true, Bool.true_and]
  by_cases e1 : ns[p].1 = ns[q].1 <;> by_cases e2 : ns[p].2 = ns[q].2 <;> simp [Prod.ext_iff, e1, e2, peq]

set_option maxRecDepth 100000 in
set_option maxHeartbeats 1000000 in
theorem LeadOk_i_no (A : Option Addr) (c : Nat) (ns : List (Int × Int)) (p q : Int) (w : World) (h : ¬ (0 ≤ p ∧ p < q ∧ q < ns.length)) :
    Calls Try.prog 101 #[.slice A ns.length c, .agg #[.int .i64 p, .int .i64 q]] w fun e w' => e = .returned (.bool (lok ns (p, q))) ∧ Ext w w' := by
  by_cases h1 : 0 ≤ p
  · by_cases h2 : p < q
    · have h3 : ¬ q < ns.length := fun h3 => h ⟨h1, h2, h3⟩
      have hv := lok_no3 (p := p) h3
      have g3 : decide (q < (ns.length : Int)) = false := decide_eq_false h3
      clear h
      go_enter Try.func101, Try.ntmps101
      go_wp2_with fail
      obtain ⟨W, hW⟩ : ∃ W, w.alloc (Obj.cells #[Value.int IntKind.i64 p, Value.int IntKind.i64 q] 65) = W := ⟨_, rfl⟩
      have d5 := cell_regrown (show W.cell? ⟨w.heap.size, 0, none⟩ = some (.int .i64 p) by rw [← hW, World.cell?_alloc_at _ _ _ _ rfl]; rfl)
      have d6 := cell_regrown (show W.cell? ⟨w.heap.size, 1, none⟩ = some (.int .i64 q) by rw [← hW, World.cell?_alloc_at _ _ _ _ rfl]; rfl)
      have hwW : Ext w W := by rw [← hW]; exact (Ext.refl _).alloc _
      rw [hW]
      clear hW
      refine rx_open [(true, 0, some 5, 8), (true, 1, some 6, 32), (true, 2, some 7, 64), (true, 4, some 8, 128), (true, 8, some 9, 264), (true, 24, some 10, 768), (true, 8, some 11, 264), (true, 72, some 12, 2304), (true, 168, some 13, 5376), (true, 264, some 14, 8448), (true, 520, some 15, 16384), (true, 1024, some 16, 32776), (true, 3072, some 17, 98304), (true, 1024, some 18, 32769), (true, 9216, some 19, 294912), (true, 21504, some 20, 688128), (true, 33792, some 21, 1081344), (true, 66560, some 22, 2097152), (true, 131072, some 23, 4194305), (true, 131072, some 24, 4194312), (true, 655360, some 25, 20971520), (true, 1441792, some 26, 46137344), (true, 2228224, some 27, 71303168), (true, 131072, some 28, 4194305), (true, 131072, some 29, 4194312), (true, 16908288, some 30, 541065216), (true, 42074112, some 31, 1346371584), (true, 67239936, some 32, 2151677952), (false, 138543104, some 33, 4433379328), (false, 268566528, some 34, 8594128896), (true, 537001984, some 35, 17184063488), (true, 1610612736, some 36, 34359738368), (true, 2147483648, some 37, 68719476737), (true, 2147483648, some 38, 68719476744), (true, 10737418240, some 39, 343597383680), (true, 23622320128, some 40, 755914244096), (true, 36507222016, some 41, 1168231104512), (true, 2147483648, some 42, 68719476737), (true, 2147483648, some 43, 68719476744), (true, 277025390592, some 44, 8864812498944), (true, 689342251008, some 45, 22058952032256), (true, 1101659111424, some 46, 35253091565568), (true, 2269890215936, some 47, 72636486909952), (true, 4400193994752, some 48, 140806207832064), (true, 17592186044415, some 4, 281474976710656)] 0 45 mixd rfl (by kernel_rfl) (by kernel_rfl) (by kernel_rfl) ?_
      refine rx_run (run := [0, 1, 2, 3, 4, 5, 6, 7, 8, 9, 10, 11, 12, 13, 14, 15, 16, 17, 18, 19, 20, 21, 22, 23, 24, 25, 26, 27]) (k := 17) (m' := 268435455) rfl (by kernel_rfl) (by kernel_rfl) (by kernel_rfl) (fm_cons rfl <| fm_cons rfl <| fm_cons rfl <| fm_cons rfl <| fm_cons rfl <| fm_cons rfl <| fm_cons rfl <| fm_cons rfl <| fm_cons rfl <| fm_cons rfl <| fm_cons rfl <| fm_cons rfl <| fm_cons rfl <| fm_cons rfl <| fm_cons rfl <| fm_cons rfl <| fm_cons rfl <| fm_cons rfl <| fm_cons rfl <| fm_cons rfl <| fm_cons rfl <| fm_cons rfl <| fm_cons rfl <| fm_cons rfl <| fm_cons rfl <| fm_cons rfl <| fm_cons rfl <| fm_cons rfl <| List.filterMap_nil) (by repeat first | exact Ext.refl _ | assumption | refine Ext.drew ?_ | refine Ext.alloc ?_ _ | refine Ext.setCell ?_ (by simp) | refine Ext.setCell ?_ (by simp; omega) | refine Ext.trans ?_ (by assumption)) ?_
      repeat (go_big_quiet_step ((fail)))
      refine wpQuiet_nil ?_
      refine rx_op 28 (k := 16) (m' := 536870911) rfl rfl (by kernel_rfl) (by kernel_rfl) ?_
      go_wp2
      refine rx_on (by repeat first | exact Ext.refl _ | assumption | refine Ext.drew ?_ | refine Ext.alloc ?_ _ | refine Ext.setCell ?_ (by simp) | refine Ext.setCell ?_ (by simp; omega) | refine Ext.trans ?_ (by assumption)) ?_
      refine rx_op 29 (k := 15) (m' := 1073741823) rfl rfl (by kernel_rfl) (by kernel_rfl) ?_
      go_wp2_with (fail)
      refine rx_on (by repeat first | exact Ext.refl _ | assumption | refine Ext.drew ?_ | refine Ext.alloc ?_ _ | refine Ext.setCell ?_ (by simp) | refine Ext.setCell ?_ (by simp; omega) | refine Ext.trans ?_ (by assumption)) ?_
      refine rx_run (run := [30, 31, 32, 33, 34, 35, 36, 37, 38, 39, 40, 41, 42, 43, 44]) (k := 0) (m' := 35184372088831) rfl (by kernel_rfl) (by kernel_rfl) (by kernel_rfl) (fm_cons rfl <| fm_cons rfl <| fm_cons rfl <| fm_cons rfl <| fm_cons rfl <| fm_cons rfl <| fm_cons rfl <| fm_cons rfl <| fm_cons rfl <| fm_cons rfl <| fm_cons rfl <| fm_cons rfl <| fm_cons rfl <| fm_cons rfl <| fm_cons rfl <| List.filterMap_nil) (by repeat first | exact Ext.refl _ | assumption | refine Ext.drew ?_ | refine Ext.alloc ?_ _ | refine Ext.setCell ?_ (by simp) | refine Ext.setCell ?_ (by simp; omega) | refine Ext.trans ?_ (by assumption)) ?_
      repeat (go_big_quiet_step ((fail)))
      refine wpQuiet_nil ?_
      refine rx_end (by kernel_rfl) ?_
      go_wp2
      go_ret
      exact ⟨ret_b hv.symm, hwW.trans (by repeat first | exact Ext.refl _ | assumption | refine Ext.drew ?_ | refine Ext.alloc ?_ _ | refine Ext.setCell ?_ (by simp) | refine Ext.setCell ?_ (by simp; omega) | refine Ext.trans ?_ (by assumption))⟩
    · have hv := lok_no2 (ns := ns) h2
      have g2 : decide (p < q) = false := decide_eq_false h2
      clear h
      go_enter Try.func101, Try.ntmps101
      go_wp2_with fail
      obtain ⟨W, hW⟩ : ∃ W, w.alloc (Obj.cells #[Value.int IntKind.i64 p, Value.int IntKind.i64 q] 65) = W := ⟨_, rfl⟩
      have d5 := cell_regrown (show W.cell? ⟨w.heap.size, 0, none⟩ = some (.int .i64 p) by rw [← hW, World.cell?_alloc_at _ _ _ _ rfl]; rfl)
      have d6 := cell_regrown (show W.cell? ⟨w.heap.size, 1, none⟩ = some (.int .i64 q) by rw [← hW, World.cell?_alloc_at _ _ _ _ rfl]; rfl)
      have hwW : Ext w W := by rw [← hW]; exact (Ext.refl _).alloc _
      rw [hW]
      clear hW
      refine rx_open [(true, 0, some 5, 8), (true, 1, some 6, 32), (true, 2, some 7, 64), (true, 4, some 8, 128), (true, 8, some 9, 264), (true, 24, some 10, 768), (true, 8, some 11, 264), (true, 72, some 12, 2304), (true, 168, some 13, 5376), (true, 264, some 14, 8448), (true, 520, some 15, 16384), (true, 1024, some 16, 32776), (true, 3072, some 17, 98304), (true, 1024, some 18, 32769), (true, 9216, some 19, 294912), (true, 21504, some 20, 688128), (true, 33792, some 21, 1081344), (true, 66560, some 22, 2097152), (true, 131072, some 23, 4194305), (true, 131072, some 24, 4194312), (true, 655360, some 25, 20971520), (true, 1441792, some 26, 46137344), (true, 2228224, some 27, 71303168), (true, 131072, some 28, 4194305), (true, 131072, some 29, 4194312), (true, 16908288, some 30, 541065216), (true, 42074112, some 31, 1346371584), (true, 67239936, some 32, 2151677952), (false, 138543104, some 33, 4433379328), (false, 268566528, some 34, 8594128896), (true, 537001984, some 35, 17184063488), (true, 1610612736, some 36, 34359738368), (true, 2147483648, some 37, 68719476737), (true, 2147483648, some 38, 68719476744), (true, 10737418240, some 39, 343597383680), (true, 23622320128, some 40, 755914244096), (true, 36507222016, some 41, 1168231104512), (true, 2147483648, some 42, 68719476737), (true, 2147483648, some 43, 68719476744), (true, 277025390592, some 44, 8864812498944), (true, 689342251008, some 45, 22058952032256), (true, 1101659111424, some 46, 35253091565568), (true, 2269890215936, some 47, 72636486909952), (true, 4400193994752, some 48, 140806207832064), (true, 17592186044415, some 4, 281474976710656)] 0 45 mixd rfl (by kernel_rfl) (by kernel_rfl) (by kernel_rfl) ?_
      refine rx_run (run := [0, 1, 2, 3, 4, 5, 6, 7, 8, 9, 10, 11, 12, 13, 14, 15, 16, 17, 18, 19, 20, 21, 22, 23, 24, 25, 26, 27]) (k := 17) (m' := 268435455) rfl (by kernel_rfl) (by kernel_rfl) (by kernel_rfl) (fm_cons rfl <| fm_cons rfl <| fm_cons rfl <| fm_cons rfl <| fm_cons rfl <| fm_cons rfl <| fm_cons rfl <| fm_cons rfl <| fm_cons rfl <| fm_cons rfl <| fm_cons rfl <| fm_cons rfl <| fm_cons rfl <| fm_cons rfl <| fm_cons rfl <| fm_cons rfl <| fm_cons rfl <| fm_cons rfl <| fm_cons rfl <| fm_cons rfl <| fm_cons rfl <| fm_cons rfl <| fm_cons rfl <| fm_cons rfl <| fm_cons rfl <| fm_cons rfl <| fm_cons rfl <| fm_cons rfl <| List.filterMap_nil) (by repeat first | exact Ext.refl _ | assumption | refine Ext.drew ?_ | refine Ext.alloc ?_ _ | refine Ext.setCell ?_ (by simp) | refine Ext.setCell ?_ (by simp; omega) | refine Ext.trans ?_ (by assumption)) ?_
      repeat (go_big_quiet_step ((fail)))
      refine wpQuiet_nil ?_
      refine rx_op 28 (k := 16) (m' := 536870911) rfl rfl (by kernel_rfl) (by kernel_rfl) ?_
      go_wp2
      refine rx_on (by repeat first | exact Ext.refl _ | assumption | refine Ext.drew ?_ | refine Ext.alloc ?_ _ | refine Ext.setCell ?_ (by simp) | refine Ext.setCell ?_ (by simp; omega) | refine Ext.trans ?_ (by assumption)) ?_
      refine rx_op 29 (k := 15) (m' := 1073741823) rfl rfl (by kernel_rfl) (by kernel_rfl) ?_
      go_wp2_with (fail)
      refine rx_on (by repeat first | exact Ext.refl _ | assumption | refine Ext.drew ?_ | refine Ext.alloc ?_ _ | refine Ext.setCell ?_ (by simp) | refine Ext.setCell ?_ (by simp; omega) | refine Ext.trans ?_ (by assumption)) ?_
      refine rx_run (run := [30, 31, 32, 33, 34, 35, 36, 37, 38, 39, 40, 41, 42, 43, 44]) (k := 0) (m' := 35184372088831) rfl (by kernel_rfl) (by kernel_rfl) (by kernel_rfl) (fm_cons rfl <| fm_cons rfl <| fm_cons rfl <| fm_cons rfl <| fm_cons rfl <| fm_cons rfl <| fm_cons rfl <| fm_cons rfl <| fm_cons rfl <| fm_cons rfl <| fm_cons rfl <| fm_cons rfl <| fm_cons rfl <| fm_cons rfl <| fm_cons rfl <| List.filterMap_nil) (by repeat first | exact Ext.refl _ | assumption | refine Ext.drew ?_ | refine Ext.alloc ?_ _ | refine Ext.setCell ?_ (by simp) | refine Ext.setCell ?_ (by simp; omega) | refine Ext.trans ?_ (by assumption)) ?_
      repeat (go_big_quiet_step ((fail)))
      refine wpQuiet_nil ?_
      refine rx_end (by kernel_rfl) ?_
      go_wp2
      go_ret
      exact ⟨ret_b hv.symm, hwW.trans (by repeat first | exact Ext.refl _ | assumption | refine Ext.drew ?_ | refine Ext.alloc ?_ _ | refine Ext.setCell ?_ (by simp) | refine Ext.setCell ?_ (by simp; omega) | refine Ext.trans ?_ (by assumption))⟩
  · have hv := lok_no1 (ns := ns) (q := q) h1
    have g1 : decide (0 ≤ p) = false := decide_eq_false h1
    clear h
    go_enter Try.func101, Try.ntmps101
    go_wp2_with fail
    obtain ⟨W, hW⟩ : ∃ W, w.alloc (Obj.cells #[Value.int IntKind.i64 p, Value.int IntKind.i64 q] 65) = W := ⟨_, rfl⟩
    have d5 := cell_regrown (show W.cell? ⟨w.heap.size, 0, none⟩ = some (.int .i64 p) by rw [← hW, World.cell?_alloc_at _ _ _ _ rfl]; rfl)
    have d6 := cell_regrown (show W.cell? ⟨w.heap.size, 1, none⟩ = some (.int .i64 q) by rw [← hW, World.cell?_alloc_at _ _ _ _ rfl]; rfl)
    have hwW : Ext w W := by rw [← hW]; exact (Ext.refl _).alloc _
    rw [hW]
    clear hW
    refine rx_open [(true, 0, some 5, 8), (true, 1, some 6, 32), (true, 2, some 7, 64), (true, 4, some 8, 128), (true, 8, some 9, 264), (true, 24, some 10, 768), (true, 8, some 11, 264), (true, 72, some 12, 2304), (true, 168, some 13, 5376), (true, 264, some 14, 8448), (true, 520, some 15, 16384), (true, 1024, some 16, 32776), (true, 3072, some 17, 98304), (true, 1024, some 18, 32769), (true, 9216, some 19, 294912), (true, 21504, some 20, 688128), (true, 33792, some 21, 1081344), (true, 66560, some 22, 2097152), (true, 131072, some 23, 4194305), (true, 131072, some 24, 4194312), (true, 655360, some 25, 20971520), (true, 1441792, some 26, 46137344), (true, 2228224, some 27, 71303168), (true, 131072, some 28, 4194305), (true, 131072, some 29, 4194312), (true, 16908288, some 30, 541065216), (true, 42074112, some 31, 1346371584), (true, 67239936, some 32, 2151677952), (false, 138543104, some 33, 4433379328), (false, 268566528, some 34, 8594128896), (true, 537001984, some 35, 17184063488), (true, 1610612736, some 36, 34359738368), (true, 2147483648, some 37, 68719476737), (true, 2147483648, some 38, 68719476744), (true, 10737418240, some 39, 343597383680), (true, 23622320128, some 40, 755914244096), (true, 36507222016, some 41, 1168231104512), (true, 2147483648, some 42, 68719476737), (true, 2147483648, some 43, 68719476744), (true, 277025390592, some 44, 8864812498944), (true, 689342251008, some 45, 22058952032256), (true, 1101659111424, some 46, 35253091565568), (true, 2269890215936, some 47, 72636486909952), (true, 4400193994752, some 48, 140806207832064), (true, 17592186044415, some 4, 281474976710656)] 0 45 mixd rfl (by kernel_rfl) (by kernel_rfl) (by kernel_rfl) ?_
    refine rx_run (run := [0, 1, 2, 3, 4, 5, 6, 7, 8, 9, 10, 11, 12, 13, 14, 15, 16, 17, 18, 19, 20, 21, 22, 23, 24, 25, 26, 27]) (k := 17) (m' := 268435455) rfl (by kernel_rfl) (by kernel_rfl) (by kernel_rfl) (fm_cons rfl <| fm_cons rfl <| fm_cons rfl <| fm_cons rfl <| fm_cons rfl <| fm_cons rfl <| fm_cons rfl <| fm_cons rfl <| fm_cons rfl <| fm_cons rfl <| fm_cons rfl <| fm_cons rfl <| fm_cons rfl <| fm_cons rfl <| fm_cons rfl <| fm_cons rfl <| fm_cons rfl <| fm_cons rfl <| fm_cons rfl <| fm_cons rfl <| fm_cons rfl <| fm_cons rfl <| fm_cons rfl <| fm_cons rfl <| fm_cons rfl <| fm_cons rfl <| fm_cons rfl <| fm_cons rfl <| List.filterMap_nil) (by repeat first | exact Ext.refl _ | assumption | refine Ext.drew ?_ | refine Ext.alloc ?_ _ | refine Ext.setCell ?_ (by simp) | refine Ext.setCell ?_ (by simp; omega) | refine Ext.trans ?_ (by assumption)) ?_
    repeat (go_big_quiet_step ((fail)))
    refine wpQuiet_nil ?_
    refine rx_op 28 (k := 16) (m' := 536870911) rfl rfl (by kernel_rfl) (by kernel_rfl) ?_
    go_wp2
    refine rx_on (by repeat first | exact Ext.refl _ | assumption | refine Ext.drew ?_ | refine Ext.alloc ?_ _ | refine Ext.setCell ?_ (by simp) | refine Ext.setCell ?_ (by simp; omega) | refine Ext.trans ?_ (by assumption)) ?_
    refine rx_op 29 (k := 15) (m' := 1073741823) rfl rfl (by kernel_rfl) (by kernel_rfl) ?_
    go_wp2_with (fail)
    refine rx_on (by repeat first | exact Ext.refl _ | assumption | refine Ext.drew ?_ | refine Ext.alloc ?_ _ | refine Ext.setCell ?_ (by simp) | refine Ext.setCell ?_ (by simp; omega) | refine Ext.trans ?_ (by assumption)) ?_
    refine rx_run (run := [30, 31, 32, 33, 34, 35, 36, 37, 38, 39, 40, 41, 42, 43, 44]) (k := 0) (m' := 35184372088831) rfl (by kernel_rfl) (by kernel_rfl) (by kernel_rfl) (fm_cons rfl <| fm_cons rfl <| fm_cons rfl <| fm_cons rfl <| fm_cons rfl <| fm_cons rfl <| fm_cons rfl <| fm_cons rfl <| fm_cons rfl <| fm_cons rfl <| fm_cons rfl <| fm_cons rfl <| fm_cons rfl <| fm_cons rfl <| fm_cons rfl <| List.filterMap_nil) (by repeat first | exact Ext.refl _ | assumption | refine Ext.drew ?_ | refine Ext.alloc ?_ _ | refine Ext.setCell ?_ (by simp) | refine Ext.setCell ?_ (by simp; omega) | refine Ext.trans ?_ (by assumption)) ?_
    repeat (go_big_quiet_step ((fail)))
    refine wpQuiet_nil ?_
    refine rx_end (by kernel_rfl) ?_
    go_wp2
    go_ret
    exact ⟨ret_b hv.symm, hwW.trans (by repeat first | exact Ext.refl _ | assumption | refine Ext.drew ?_ | refine Ext.alloc ?_ _ | refine Ext.setCell ?_ (by simp) | refine Ext.setCell ?_ (by simp; omega) | refine Ext.trans ?_ (by assumption))⟩

set_option maxRecDepth 100000 in
set_option maxHeartbeats 1000000 in
theorem LeadOk_i (A : Option Addr) (c : Nat) (ns : List (Int × Int)) (p q : Int) (w : World) (_ : ns.length ≤ 2000000) (h : Pr w w.heap.size A ns) :
    Calls Try.prog 101 #[.slice A ns.length c, .agg #[.int .i64 p, .int .i64 q]] w fun e w' => e = .returned (.bool (lok ns (p, q))) ∧ Ext w w' := by
  by_cases h0 : 0 ≤ p ∧ p < q ∧ q < ns.length
  · obtain ⟨h1, h2, h3⟩ := h0
    obtain ⟨p, rfl⟩ := Int.eq_ofNat_of_zero_le h1
    obtain ⟨q, rfl⟩ := Int.eq_ofNat_of_zero_le (show 0 ≤ q by omega)
    have hp : (p : Int) < ns.length := by omega
    have hp' : p < ns.length := by omega
    have hq' : q < ns.length := by omega
    obtain ⟨b, off, rfl, hbb, c1, c2⟩ := h.at_ (k := p) (by omega)
    obtain ⟨b', off', he, hbb', c3, c4⟩ := h.at_ (k := q) (by omega)
    obtain ⟨rfl, rfl⟩ : b = b' ∧ off = off' := by simpa using he
    clear he hbb' h
    by_cases hn : (nok ns[p] && nok ns[q]) = true
    · have hv := lok_yes hp' hq' h2 hn
      go_enter Try.func101, Try.ntmps101
      go_wp2_with fail
      obtain ⟨W, hW⟩ : ∃ W, w.alloc (Obj.cells #[Value.int IntKind.i64 ↑p, Value.int IntKind.i64 ↑q] 65) = W := ⟨_, rfl⟩
      have hwW : Ext w W := by rw [← hW]; exact (Ext.refl _).alloc _
      have d1 := cell_regrown (hwW.lit c1)
      have d2 := cell_regrown (hwW.lit c2)
      have d3 := cell_regrown (hwW.lit c3)
      have d4 := cell_regrown (hwW.lit c4)
      have d5 := cell_regrown (show W.cell? ⟨w.heap.size, 0, none⟩ = some (.int .i64 p) by rw [← hW, World.cell?_alloc_at _ _ _ _ rfl]; rfl)
      have d6 := cell_regrown (show W.cell? ⟨w.heap.size, 1, none⟩ = some (.int .i64 q) by rw [← hW, World.cell?_alloc_at _ _ _ _ rfl]; rfl)
      rw [hW]
      clear hW c1 c2 c3 c4
      refine rx_open [(true, 0, some 5, 8), (true, 1, some 6, 32), (true, 2, some 7, 64), (true, 4, some 8, 128), (true, 8, some 9, 264), (true, 24, some 10, 768), (true, 8, some 11, 264), (true, 72, some 12, 2304), (true, 168, some 13, 5376), (true, 264, some 14, 8448), (true, 520, some 15, 16384), (true, 1024, some 16, 32776), (true, 3072, some 17, 98304), (true, 1024, some 18, 32769), (true, 9216, some 19, 294912), (true, 21504, some 20, 688128), (true, 33792, some 21, 1081344), (true, 66560, some 22, 2097152), (true, 131072, some 23, 4194305), (true, 131072, some 24, 4194312), (true, 655360, some 25, 20971520), (true, 1441792, some 26, 46137344), (true, 2228224, some 27, 71303168), (true, 131072, some 28, 4194305), (true, 131072, some 29, 4194312), (true, 16908288, some 30, 541065216), (true, 42074112, some 31, 1346371584), (true, 67239936, some 32, 2151677952), (false, 138543104, some 33, 4433379328), (false, 268566528, some 34, 8594128896), (true, 537001984, some 35, 17184063488), (true, 1610612736, some 36, 34359738368), (true, 2147483648, some 37, 68719476737), (true, 2147483648, some 38, 68719476744), (true, 10737418240, some 39, 343597383680), (true, 23622320128, some 40, 755914244096), (true, 36507222016, some 41, 1168231104512), (true, 2147483648, some 42, 68719476737), (true, 2147483648, some 43, 68719476744), (true, 277025390592, some 44, 8864812498944), (true, 689342251008, some 45, 22058952032256), (true, 1101659111424, some 46, 35253091565568), (true, 2269890215936, some 47, 72636486909952), (true, 4400193994752, some 48, 140806207832064), (true, 17592186044415, some 4, 281474976710656)] 0 45 mixd rfl (by kernel_rfl) (by kernel_rfl) (by kernel_rfl) ?_
      refine rx_run (run := [0, 1, 2, 3, 4, 5, 6, 7, 8, 9, 10, 11, 12, 13, 14, 15, 16, 17, 18, 19, 20, 21, 22, 23, 24, 25, 26, 27]) (k := 17) (m' := 268435455) rfl (by kernel_rfl) (by kernel_rfl) (by kernel_rfl) (fm_cons rfl <| fm_cons rfl <| fm_cons rfl <| fm_cons rfl <| fm_cons rfl <| fm_cons rfl <| fm_cons rfl <| fm_cons rfl <| fm_cons rfl <| fm_cons rfl <| fm_cons rfl <| fm_cons rfl <| fm_cons rfl <| fm_cons rfl <| fm_cons rfl <| fm_cons rfl <| fm_cons rfl <| fm_cons rfl <| fm_cons rfl <| fm_cons rfl <| fm_cons rfl <| fm_cons rfl <| fm_cons rfl <| fm_cons rfl <| fm_cons rfl <| fm_cons rfl <| fm_cons rfl <| fm_cons rfl <| List.filterMap_nil) (by repeat first | exact Ext.refl _ | assumption | refine Ext.drew ?_ | refine Ext.alloc ?_ _ | refine Ext.setCell ?_ (by simp) | refine Ext.setCell ?_ (by simp; omega) | refine Ext.trans ?_ (by assumption)) ?_
      repeat (go_big_quiet_step ((fail)))
      refine wpQuiet_nil ?_
      refine rx_op 28 (k := 16) (m' := 536870911) rfl rfl (by kernel_rfl) (by kernel_rfl) ?_
      go_wp2
      refine rx_on (by repeat first | exact Ext.refl _ | assumption | refine Ext.drew ?_ | refine Ext.alloc ?_ _ | refine Ext.setCell ?_ (by simp) | refine Ext.setCell ?_ (by simp; omega) | refine Ext.trans ?_ (by assumption)) ?_
      refine rx_op 29 (k := 15) (m' := 1073741823) rfl rfl (by kernel_rfl) (by kernel_rfl) ?_
      go_wp2_with (go_at_call 99; refine (nodesOk2 ns[p] ns[q] _ _ (by first | exact heap_new _ rfl | exact heap_new_d _ rfl)).mono ?_; rintro e w1 ⟨rfl, hb1⟩; rw [hn])
      refine rx_on (by repeat first | exact Ext.refl _ | assumption | refine Ext.drew ?_ | refine Ext.alloc ?_ _ | refine Ext.setCell ?_ (by simp) | refine Ext.setCell ?_ (by simp; omega) | refine Ext.trans ?_ (by assumption)) ?_
      refine rx_run (run := [30, 31, 32, 33, 34, 35, 36, 37, 38, 39, 40, 41, 42, 43, 44]) (k := 0) (m' := 35184372088831) rfl (by kernel_rfl) (by kernel_rfl) (by kernel_rfl) (fm_cons rfl <| fm_cons rfl <| fm_cons rfl <| fm_cons rfl <| fm_cons rfl <| fm_cons rfl <| fm_cons rfl <| fm_cons rfl <| fm_cons rfl <| fm_cons rfl <| fm_cons rfl <| fm_cons rfl <| fm_cons rfl <| fm_cons rfl <| fm_cons rfl <| List.filterMap_nil) (by repeat first | exact Ext.refl _ | assumption | refine Ext.drew ?_ | refine Ext.alloc ?_ _ | refine Ext.setCell ?_ (by simp) | refine Ext.setCell ?_ (by simp; omega) | refine Ext.trans ?_ (by assumption)) ?_
      repeat (go_big_quiet_step ((fail)))
      refine wpQuiet_nil ?_
      refine rx_end (by kernel_rfl) ?_
      go_wp2
      go_ret
      exact ⟨ret_b (by rw [hv]), hwW.trans (by repeat first | exact Ext.refl _ | assumption | refine Ext.drew ?_ | refine Ext.alloc ?_ _ | refine Ext.setCell ?_ (by simp) | refine Ext.setCell ?_ (by simp; omega) | refine Ext.trans ?_ (by assumption))⟩
    · have hn' := eq_false_of_ne_true hn
      have hv := lok_no4 hp' hq' hn'
      clear hn
      go_enter Try.func101, Try.ntmps101
      go_wp2_with fail
      obtain ⟨W, hW⟩ : ∃ W, w.alloc (Obj.cells #[Value.int IntKind.i64 ↑p, Value.int IntKind.i64 ↑q] 65) = W := ⟨_, rfl⟩
      have hwW : Ext w W := by rw [← hW]; exact (Ext.refl _).alloc _
      have d1 := cell_regrown (hwW.lit c1)
      have d2 := cell_regrown (hwW.lit c2)
      have d3 := cell_regrown (hwW.lit c3)
      have d4 := cell_regrown (hwW.lit c4)
      have d5 := cell_regrown (show W.cell? ⟨w.heap.size, 0, none⟩ = some (.int .i64 p) by rw [← hW, World.cell?_alloc_at _ _ _ _ rfl]; rfl)
      have d6 := cell_regrown (show W.cell? ⟨w.heap.size, 1, none⟩ = some (.int .i64 q) by rw [← hW, World.cell?_alloc_at _ _ _ _ rfl]; rfl)
      rw [hW]
      clear hW c1 c2 c3 c4
      refine rx_open [(true, 0, some 5, 8), (true, 1, some 6, 32), (true, 2, some 7, 64), (true, 4, some 8, 128), (true, 8, some 9, 264), (true, 24, some 10, 768), (true, 8, some 11, 264), (true, 72, some 12, 2304), (true, 168, some 13, 5376), (true, 264, some 14, 8448), (true, 520, some 15, 16384), (true, 1024, some 16, 32776), (true, 3072, some 17, 98304), (true, 1024, some 18, 32769), (true, 9216, some 19, 294912), (true, 21504, some 20, 688128), (true, 33792, some 21, 1081344), (true, 66560, some 22, 2097152), (true, 131072, some 23, 4194305), (true, 131072, some 24, 4194312), (true, 655360, some 25, 20971520), (true, 1441792, some 26, 46137344), (true, 2228224, some 27, 71303168), (true, 131072, some 28, 4194305), (true, 131072, some 29, 4194312), (true, 16908288, some 30, 541065216), (true, 42074112, some 31, 1346371584), (true, 67239936, some 32, 2151677952), (false, 138543104, some 33, 4433379328), (false, 268566528, some 34, 8594128896), (true, 537001984, some 35, 17184063488), (true, 1610612736, some 36, 34359738368), (true, 2147483648, some 37, 68719476737), (true, 2147483648, some 38, 68719476744), (true, 10737418240, some 39, 343597383680), (true, 23622320128, some 40, 755914244096), (true, 36507222016, some 41, 1168231104512), (true, 2147483648, some 42, 68719476737), (true, 2147483648, some 43, 68719476744), (true, 277025390592, some 44, 8864812498944), (true, 689342251008, some 45, 22058952032256), (true, 1101659111424, some 46, 35253091565568), (true, 2269890215936, some 47, 72636486909952), (true, 4400193994752, some 48, 140806207832064), (true, 17592186044415, some 4, 281474976710656)] 0 45 mixd rfl (by kernel_rfl) (by kernel_rfl) (by kernel_rfl) ?_
      refine rx_run (run := [0, 1, 2, 3, 4, 5, 6, 7, 8, 9, 10, 11, 12, 13, 14, 15, 16, 17, 18, 19, 20, 21, 22, 23, 24, 25, 26, 27]) (k := 17) (m' := 268435455) rfl (by kernel_rfl) (by kernel_rfl) (by kernel_rfl) (fm_cons rfl <| fm_cons rfl <| fm_cons rfl <| fm_cons rfl <| fm_cons rfl <| fm_cons rfl <| fm_cons rfl <| fm_cons rfl <| fm_cons rfl <| fm_cons rfl <| fm_cons rfl <| fm_cons rfl <| fm_cons rfl <| fm_cons rfl <| fm_cons rfl <| fm_cons rfl <| fm_cons rfl <| fm_cons rfl <| fm_cons rfl <| fm_cons rfl <| fm_cons rfl <| fm_cons rfl <| fm_cons rfl <| fm_cons rfl <| fm_cons rfl <| fm_cons rfl <| fm_cons rfl <| fm_cons rfl <| List.filterMap_nil) (by repeat first | exact Ext.refl _ | assumption | refine Ext.drew ?_ | refine Ext.alloc ?_ _ | refine Ext.setCell ?_ (by simp) | refine Ext.setCell ?_ (by simp; omega) | refine Ext.trans ?_ (by assumption)) ?_
      repeat (go_big_quiet_step ((fail)))
      refine wpQuiet_nil ?_
      refine rx_op 28 (k := 16) (m' := 536870911) rfl rfl (by kernel_rfl) (by kernel_rfl) ?_
      go_wp2
      refine rx_on (by repeat first | exact Ext.refl _ | assumption | refine Ext.drew ?_ | refine Ext.alloc ?_ _ | refine Ext.setCell ?_ (by simp) | refine Ext.setCell ?_ (by simp; omega) | refine Ext.trans ?_ (by assumption)) ?_
      refine rx_op 29 (k := 15) (m' := 1073741823) rfl rfl (by kernel_rfl) (by kernel_rfl) ?_
      go_wp2_with (go_at_call 99; refine (nodesOk2 ns[p] ns[q] _ _ (by first | exact heap_new _ rfl | exact heap_new_d _ rfl)).mono ?_; rintro e w1 ⟨rfl, hb1⟩; rw [hn'])
      refine rx_on (by repeat first | exact Ext.refl _ | assumption | refine Ext.drew ?_ | refine Ext.alloc ?_ _ | refine Ext.setCell ?_ (by simp) | refine Ext.setCell ?_ (by simp; omega) | refine Ext.trans ?_ (by assumption)) ?_
      refine rx_run (run := [30, 31, 32, 33, 34, 35, 36, 37, 38, 39, 40, 41, 42, 43, 44]) (k := 0) (m' := 35184372088831) rfl (by kernel_rfl) (by kernel_rfl) (by kernel_rfl) (fm_cons rfl <| fm_cons rfl <| fm_cons rfl <| fm_cons rfl <| fm_cons rfl <| fm_cons rfl <| fm_cons rfl <| fm_cons rfl <| fm_cons rfl <| fm_cons rfl <| fm_cons rfl <| fm_cons rfl <| fm_cons rfl <| fm_cons rfl <| fm_cons rfl <| List.filterMap_nil) (by repeat first | exact Ext.refl _ | assumption | refine Ext.drew ?_ | refine Ext.alloc ?_ _ | refine Ext.setCell ?_ (by simp) | refine Ext.setCell ?_ (by simp; omega) | refine Ext.trans ?_ (by assumption)) ?_
      repeat (go_big_quiet_step ((fail)))
      refine wpQuiet_nil ?_
      refine rx_end (by kernel_rfl) ?_
      go_wp2
      go_ret
      exact ⟨ret_b (by rw [hv]), hwW.trans (by repeat first | exact Ext.refl _ | assumption | refine Ext.drew ?_ | refine Ext.alloc ?_ _ | refine Ext.setCell ?_ (by simp) | refine Ext.setCell ?_ (by simp; omega) | refine Ext.trans ?_ (by assumption))⟩
  · exact LeadOk_i_no A c ns p q w h0
set_option maxRecDepth 100000 in
set_option maxHeartbeats 1000000 in
theorem LeadOk_s (A : Option Addr) (c : Nat) (ns : List (Int × Int)) (p q : Int) (w : World) (hl : ns.length ≤ 2000000) (h : Pr w w.heap.size A ns) :
    Calls Try.prog 95 #[.slice A ns.length c, .agg #[.int .i64 p, .int .i64 q]] w fun e w' => e = .returned (.bool (lok ns (p, q))) ∧ Ext w w' := by
  by_cases h0 : 0 ≤ p ∧ p < q ∧ q < ns.length
  · obtain ⟨h1, h2, h3⟩ := h0
    obtain ⟨p, rfl⟩ := Int.eq_ofNat_of_zero_le h1
    obtain ⟨q, rfl⟩ := Int.eq_ofNat_of_zero_le (show 0 ≤ q by omega)
    have hp : (p : Int) < ns.length := by omega
    have hp' : p < ns.length := by omega
    have hq' : q < ns.length := by omega
    obtain ⟨b, off, rfl, hbb, c1, c2⟩ := h.at_ (k := p) (by omega)
    obtain ⟨b', off', he, hbb', c3, c4⟩ := h.at_ (k := q) (by omega)
    obtain ⟨rfl, rfl⟩ : b = b' ∧ off = off' := by simpa using he
    clear he hbb' h
    have t1 : wi p 0 (ns.length - 1) = true := by simp [wi]; omega
    have t2 : wi q 0 (ns.length - 1) = true := by simp [wi]; omega
    by_cases n1 : nok ns[p] = true
    · by_cases n2 : nok ns[q] = true
      · have hv := lok_yes hp' hq' h2 (by rw [n1, n2]; rfl)
        go_enter Try.func95, Try.ntmps95
        go_wp2_with (go_at_call 67; refine (l01In_c _ _ _ _).mono ?_; rintro e w' ⟨rfl, rfl⟩)
        obtain ⟨W, hW⟩ : ∃ W, w.alloc (Obj.cells #[Value.int IntKind.i64 ↑p, Value.int IntKind.i64 ↑q] 65) = W := ⟨_, rfl⟩
        have hwW : Ext w W := by rw [← hW]; exact (Ext.refl _).alloc _
        have d1 := cell_regrown (hwW.lit c1)
        have d2 := cell_regrown (hwW.lit c2)
        have d3 := cell_regrown (hwW.lit c3)
        have d4 := cell_regrown (hwW.lit c4)
        have d5 := cell_regrown (show W.cell? ⟨w.heap.size, 0, none⟩ = some (.int .i64 p) by rw [← hW, World.cell?_alloc_at _ _ _ _ rfl]; rfl)
        have d6 := cell_regrown (show W.cell? ⟨w.heap.size, 1, none⟩ = some (.int .i64 q) by rw [← hW, World.cell?_alloc_at _ _ _ _ rfl]; rfl)
        rw [hW]
        clear hW c1 c2 c3 c4
        refine rx_open [(true, 0, some 28, 1), (true, 0, some 29, 8), (true, 2, some 30, 536870912), (true, 5, some 31, 1342177280), (true, 8, some 32, 2147483648), (false, 16, some 33, 4294967296), (true, 32, some 34, 8589934592), (true, 64, some 35, 17179869185), (true, 64, some 36, 17179869192), (true, 320, some 37, 85899345920), (true, 704, some 38, 188978561024), (true, 1088, some 39, 292057776128), (false, 2112, some 40, 566935683072), (true, 4160, some 41, 1116691496960), (true, 12288, some 42, 2199023255552), (true, 16384, some 43, 4398046511105), (true, 16384, some 44, 4398046511112), (true, 81920, some 45, 21990232555520), (true, 180224, some 46, 48378511622144), (true, 278528, some 47, 74766790688768), (true, 16384, some 48, 4398046511105), (true, 16384, some 49, 4398046511112), (true, 2113536, some 50, 567347999932416), (true, 5259264, some 51, 1411772930064384), (true, 8404992, some 52, 2256197860196352), (true, 17317888, some 53, 4648735162236928), (true, 33570816, some 54, 9011597301252096), (true, 134217727, some 4, 18014398509481984)] 0 28 mixd rfl (by kernel_rfl) (by kernel_rfl) (by kernel_rfl) ?_
        refine rx_run (run := [0, 1, 2, 3, 4]) (k := 23) (m' := 31) rfl (by kernel_rfl) (by kernel_rfl) (by kernel_rfl) (fm_cons rfl <| fm_cons rfl <| fm_cons rfl <| fm_cons rfl <| fm_cons rfl <| List.filterMap_nil) (by repeat first | exact Ext.refl _ | assumption | refine Ext.drew ?_ | refine Ext.alloc ?_ _ | refine Ext.setCell ?_ (by simp) | refine Ext.setCell ?_ (by simp; omega) | refine Ext.trans ?_ (by assumption)) ?_
        repeat (go_big_quiet_step ((fail)))
        refine wpQuiet_nil ?_
        refine rx_op 5 (k := 22) (m' := 63) rfl rfl (by kernel_rfl) (by kernel_rfl) ?_
        go_wp2_with (go_at_call 94; refine (NodeOk_s _ _ _).mono ?_; rintro e w1 ⟨rfl, hb1⟩; first | rw [show nok (ns[p].fst, ns[p].snd) = true from n1] | rw [show nok (ns[q].fst, ns[q].snd) = true from n2])
        refine rx_on (by repeat first | exact Ext.refl _ | assumption | refine Ext.drew ?_ | refine Ext.alloc ?_ _ | refine Ext.setCell ?_ (by simp) | refine Ext.setCell ?_ (by simp; omega) | refine Ext.trans ?_ (by assumption)) ?_
        refine rx_run (run := [6, 7, 8, 9, 10, 11]) (k := 16) (m' := 4095) rfl (by kernel_rfl) (by kernel_rfl) (by kernel_rfl) (fm_cons rfl <| fm_cons rfl <| fm_cons rfl <| fm_cons rfl <| fm_cons rfl <| fm_cons rfl <| List.filterMap_nil) (by repeat first | exact Ext.refl _ | assumption | refine Ext.drew ?_ | refine Ext.alloc ?_ _ | refine Ext.setCell ?_ (by simp) | refine Ext.setCell ?_ (by simp; omega) | refine Ext.trans ?_ (by assumption)) ?_
        repeat (go_big_quiet_step ((fail)))
        refine wpQuiet_nil ?_
        refine rx_op 12 (k := 15) (m' := 8191) rfl rfl (by kernel_rfl) (by kernel_rfl) ?_
        go_wp2_with (go_at_call 94; refine (NodeOk_s _ _ _).mono ?_; rintro e w1 ⟨rfl, hb1⟩; first | rw [show nok (ns[p].fst, ns[p].snd) = true from n1] | rw [show nok (ns[q].fst, ns[q].snd) = true from n2])
        refine rx_on (by repeat first | exact Ext.refl _ | assumption | refine Ext.drew ?_ | refine Ext.alloc ?_ _ | refine Ext.setCell ?_ (by simp) | refine Ext.setCell ?_ (by simp; omega) | refine Ext.trans ?_ (by assumption)) ?_
        refine rx_run (run := [13, 14, 15, 16, 17, 18, 19, 20, 21, 22, 23, 24, 25, 26, 27]) (k := 0) (m' := 268435455) rfl (by kernel_rfl) (by kernel_rfl) (by kernel_rfl) (fm_cons rfl <| fm_cons rfl <| fm_cons rfl <| fm_cons rfl <| fm_cons rfl <| fm_cons rfl <| fm_cons rfl <| fm_cons rfl <| fm_cons rfl <| fm_cons rfl <| fm_cons rfl <| fm_cons rfl <| fm_cons rfl <| fm_cons rfl <| fm_cons rfl <| List.filterMap_nil) (by repeat first | exact Ext.refl _ | assumption | refine Ext.drew ?_ | refine Ext.alloc ?_ _ | refine Ext.setCell ?_ (by simp) | refine Ext.setCell ?_ (by simp; omega) | refine Ext.trans ?_ (by assumption)) ?_
        repeat (go_big_quiet_step ((fail)))
        refine wpQuiet_nil ?_
        refine rx_end (by kernel_rfl) ?_
        go_wp2
        go_ret
        exact ⟨ret_b (by rw [hv]), hwW.trans (by repeat first | exact Ext.refl _ | assumption | refine Ext.drew ?_ | refine Ext.alloc ?_ _ | refine Ext.setCell ?_ (by simp) | refine Ext.setCell ?_ (by simp; omega) | refine Ext.trans ?_ (by assumption))⟩
      · have n2' := eq_false_of_ne_true n2
        have hv := lok_no4 hp' hq' (by rw [n1, n2']; rfl)
        clear n2
        go_enter Try.func95, Try.ntmps95
        go_wp2_with (go_at_call 67; refine (l01In_c _ _ _ _).mono ?_; rintro e w' ⟨rfl, rfl⟩)
        obtain ⟨W, hW⟩ : ∃ W, w.alloc (Obj.cells #[Value.int IntKind.i64 ↑p, Value.int IntKind.i64 ↑q] 65) = W := ⟨_, rfl⟩
        have hwW : Ext w W := by rw [← hW]; exact (Ext.refl _).alloc _
        have d1 := cell_regrown (hwW.lit c1)
        have d2 := cell_regrown (hwW.lit c2)
        have d3 := cell_regrown (hwW.lit c3)
        have d4 := cell_regrown (hwW.lit c4)
        have d5 := cell_regrown (show W.cell? ⟨w.heap.size, 0, none⟩ = some (.int .i64 p) by rw [← hW, World.cell?_alloc_at _ _ _ _ rfl]; rfl)
        have d6 := cell_regrown (show W.cell? ⟨w.heap.size, 1, none⟩ = some (.int .i64 q) by rw [← hW, World.cell?_alloc_at _ _ _ _ rfl]; rfl)
        rw [hW]
        clear hW c1 c2 c3 c4
        refine rx_open [(true, 0, some 28, 1), (true, 0, some 29, 8), (true, 2, some 30, 536870912), (true, 5, some 31, 1342177280), (true, 8, some 32, 2147483648), (false, 16, some 33, 4294967296), (true, 32, some 34, 8589934592), (true, 64, some 35, 17179869185), (true, 64, some 36, 17179869192), (true, 320, some 37, 85899345920), (true, 704, some 38, 188978561024), (true, 1088, some 39, 292057776128), (false, 2112, some 40, 566935683072), (true, 4160, some 41, 1116691496960), (true, 12288, some 42, 2199023255552), (true, 16384, some 43, 4398046511105), (true, 16384, some 44, 4398046511112), (true, 81920, some 45, 21990232555520), (true, 180224, some 46, 48378511622144), (true, 278528, some 47, 74766790688768), (true, 16384, some 48, 4398046511105), (true, 16384, some 49, 4398046511112), (true, 2113536, some 50, 567347999932416), (true, 5259264, some 51, 1411772930064384), (true, 8404992, some 52, 2256197860196352), (true, 17317888, some 53, 4648735162236928), (true, 33570816, some 54, 9011597301252096), (true, 134217727, some 4, 18014398509481984)] 0 28 mixd rfl (by kernel_rfl) (by kernel_rfl) (by kernel_rfl) ?_
        refine rx_run (run := [0, 1, 2, 3, 4]) (k := 23) (m' := 31) rfl (by kernel_rfl) (by kernel_rfl) (by kernel_rfl) (fm_cons rfl <| fm_cons rfl <| fm_cons rfl <| fm_cons rfl <| fm_cons rfl <| List.filterMap_nil) (by repeat first | exact Ext.refl _ | assumption | refine Ext.drew ?_ | refine Ext.alloc ?_ _ | refine Ext.setCell ?_ (by simp) | refine Ext.setCell ?_ (by simp; omega) | refine Ext.trans ?_ (by assumption)) ?_
        repeat (go_big_quiet_step ((fail)))
        refine wpQuiet_nil ?_
        refine rx_op 5 (k := 22) (m' := 63) rfl rfl (by kernel_rfl) (by kernel_rfl) ?_
        go_wp2_with (go_at_call 94; refine (NodeOk_s _ _ _).mono ?_; rintro e w1 ⟨rfl, hb1⟩; first | rw [show nok (ns[p].fst, ns[p].snd) = true from n1] | rw [show nok (ns[q].fst, ns[q].snd) = false from n2'])
        refine rx_on (by repeat first | exact Ext.refl _ | assumption | refine Ext.drew ?_ | refine Ext.alloc ?_ _ | refine Ext.setCell ?_ (by simp) | refine Ext.setCell ?_ (by simp; omega) | refine Ext.trans ?_ (by assumption)) ?_
        refine rx_run (run := [6, 7, 8, 9, 10, 11]) (k := 16) (m' := 4095) rfl (by kernel_rfl) (by kernel_rfl) (by kernel_rfl) (fm_cons rfl <| fm_cons rfl <| fm_cons rfl <| fm_cons rfl <| fm_cons rfl <| fm_cons rfl <| List.filterMap_nil) (by repeat first | exact Ext.refl _ | assumption | refine Ext.drew ?_ | refine Ext.alloc ?_ _ | refine Ext.setCell ?_ (by simp) | refine Ext.setCell ?_ (by simp; omega) | refine Ext.trans ?_ (by assumption)) ?_
        repeat (go_big_quiet_step ((fail)))
        refine wpQuiet_nil ?_
        refine rx_op 12 (k := 15) (m' := 8191) rfl rfl (by kernel_rfl) (by kernel_rfl) ?_
        go_wp2_with (go_at_call 94; refine (NodeOk_s _ _ _).mono ?_; rintro e w1 ⟨rfl, hb1⟩; first | rw [show nok (ns[p].fst, ns[p].snd) = true from n1] | rw [show nok (ns[q].fst, ns[q].snd) = false from n2'])
        refine rx_on (by repeat first | exact Ext.refl _ | assumption | refine Ext.drew ?_ | refine Ext.alloc ?_ _ | refine Ext.setCell ?_ (by simp) | refine Ext.setCell ?_ (by simp; omega) | refine Ext.trans ?_ (by assumption)) ?_
        refine rx_run (run := [13, 14, 15, 16, 17, 18, 19, 20, 21, 22, 23, 24, 25, 26, 27]) (k := 0) (m' := 268435455) rfl (by kernel_rfl) (by kernel_rfl) (by kernel_rfl) (fm_cons rfl <| fm_cons rfl <| fm_cons rfl <| fm_cons rfl <| fm_cons rfl <| fm_cons rfl <| fm_cons rfl <| fm_cons rfl <| fm_cons rfl <| fm_cons rfl <| fm_cons rfl <| fm_cons rfl <| fm_cons rfl <| fm_cons rfl <| fm_cons rfl <| List.filterMap_nil) (by repeat first | exact Ext.refl _ | assumption | refine Ext.drew ?_ | refine Ext.alloc ?_ _ | refine Ext.setCell ?_ (by simp) | refine Ext.setCell ?_ (by simp; omega) | refine Ext.trans ?_ (by assumption)) ?_
        repeat (go_big_quiet_step ((fail)))
        refine wpQuiet_nil ?_
        refine rx_end (by kernel_rfl) ?_
        go_wp2
        go_ret
        exact ⟨ret_b (by rw [hv]), hwW.trans (by repeat first | exact Ext.refl _ | assumption | refine Ext.drew ?_ | refine Ext.alloc ?_ _ | refine Ext.setCell ?_ (by simp) | refine Ext.setCell ?_ (by simp; omega) | refine Ext.trans ?_ (by assumption))⟩
    · have n1' := eq_false_of_ne_true n1
      have hv := lok_no4 hp' hq' (by rw [n1']; rfl)
      clear n1
      go_enter Try.func95, Try.ntmps95
      go_wp2_with (go_at_call 67; refine (l01In_c _ _ _ _).mono ?_; rintro e w' ⟨rfl, rfl⟩)
      obtain ⟨W, hW⟩ : ∃ W, w.alloc (Obj.cells #[Value.int IntKind.i64 ↑p, Value.int IntKind.i64 ↑q] 65) = W := ⟨_, rfl⟩
      have hwW : Ext w W := by rw [← hW]; exact (Ext.refl _).alloc _
      have d1 := cell_regrown (hwW.lit c1)
      have d2 := cell_regrown (hwW.lit c2)
      have d3 := cell_regrown (hwW.lit c3)
      have d4 := cell_regrown (hwW.lit c4)
      have d5 := cell_regrown (show W.cell? ⟨w.heap.size, 0, none⟩ = some (.int .i64 p) by rw [← hW, World.cell?_alloc_at _ _ _ _ rfl]; rfl)
      have d6 := cell_regrown (show W.cell? ⟨w.heap.size, 1, none⟩ = some (.int .i64 q) by rw [← hW, World.cell?_alloc_at _ _ _ _ rfl]; rfl)
      rw [hW]
      clear hW c1 c2 c3 c4
      refine rx_open [(true, 0, some 28, 1), (true, 0, some 29, 8), (true, 2, some 30, 536870912), (true, 5, some 31, 1342177280), (true, 8, some 32, 2147483648), (false, 16, some 33, 4294967296), (true, 32, some 34, 8589934592), (true, 64, some 35, 17179869185), (true, 64, some 36, 17179869192), (true, 320, some 37, 85899345920), (true, 704, some 38, 188978561024), (true, 1088, some 39, 292057776128), (false, 2112, some 40, 566935683072), (true, 4160, some 41, 1116691496960), (true, 12288, some 42, 2199023255552), (true, 16384, some 43, 4398046511105), (true, 16384, some 44, 4398046511112), (true, 81920, some 45, 21990232555520), (true, 180224, some 46, 48378511622144), (true, 278528, some 47, 74766790688768), (true, 16384, some 48, 4398046511105), (true, 16384, some 49, 4398046511112), (true, 2113536, some 50, 567347999932416), (true, 5259264, some 51, 1411772930064384), (true, 8404992, some 52, 2256197860196352), (true, 17317888, some 53, 4648735162236928), (true, 33570816, some 54, 9011597301252096), (true, 134217727, some 4, 18014398509481984)] 0 28 mixd rfl (by kernel_rfl) (by kernel_rfl) (by kernel_rfl) ?_
      refine rx_run (run := [0, 1, 2, 3, 4]) (k := 23) (m' := 31) rfl (by kernel_rfl) (by kernel_rfl) (by kernel_rfl) (fm_cons rfl <| fm_cons rfl <| fm_cons rfl <| fm_cons rfl <| fm_cons rfl <| List.filterMap_nil) (by repeat first | exact Ext.refl _ | assumption | refine Ext.drew ?_ | refine Ext.alloc ?_ _ | refine Ext.setCell ?_ (by simp) | refine Ext.setCell ?_ (by simp; omega) | refine Ext.trans ?_ (by assumption)) ?_
      repeat (go_big_quiet_step ((fail)))
      refine wpQuiet_nil ?_
      refine rx_op 5 (k := 22) (m' := 63) rfl rfl (by kernel_rfl) (by kernel_rfl) ?_
      go_wp2_with (go_at_call 94; refine (NodeOk_s _ _ _).mono ?_; rintro e w1 ⟨rfl, hb1⟩; rw [show nok (ns[p].fst, ns[p].snd) = false from n1'])
      refine rx_on (by repeat first | exact Ext.refl _ | assumption | refine Ext.drew ?_ | refine Ext.alloc ?_ _ | refine Ext.setCell ?_ (by simp) | refine Ext.setCell ?_ (by simp; omega) | refine Ext.trans ?_ (by assumption)) ?_
      refine rx_run (run := [6, 7, 8, 9, 10, 11]) (k := 16) (m' := 4095) rfl (by kernel_rfl) (by kernel_rfl) (by kernel_rfl) (fm_cons rfl <| fm_cons rfl <| fm_cons rfl <| fm_cons rfl <| fm_cons rfl <| fm_cons rfl <| List.filterMap_nil) (by repeat first | exact Ext.refl _ | assumption | refine Ext.drew ?_ | refine Ext.alloc ?_ _ | refine Ext.setCell ?_ (by simp) | refine Ext.setCell ?_ (by simp; omega) | refine Ext.trans ?_ (by assumption)) ?_
      repeat (go_big_quiet_step ((fail)))
      refine wpQuiet_nil ?_
      refine rx_op 12 (k := 15) (m' := 8191) rfl rfl (by kernel_rfl) (by kernel_rfl) ?_
      go_wp2_with (go_at_call 94; refine (NodeOk_s _ _ _).mono ?_; rintro e w1 ⟨rfl, hb1⟩; rw [show nok (ns[p].fst, ns[p].snd) = false from n1'])
      refine rx_on (by repeat first | exact Ext.refl _ | assumption | refine Ext.drew ?_ | refine Ext.alloc ?_ _ | refine Ext.setCell ?_ (by simp) | refine Ext.setCell ?_ (by simp; omega) | refine Ext.trans ?_ (by assumption)) ?_
      refine rx_run (run := [13, 14, 15, 16, 17, 18, 19, 20, 21, 22, 23, 24, 25, 26, 27]) (k := 0) (m' := 268435455) rfl (by kernel_rfl) (by kernel_rfl) (by kernel_rfl) (fm_cons rfl <| fm_cons rfl <| fm_cons rfl <| fm_cons rfl <| fm_cons rfl <| fm_cons rfl <| fm_cons rfl <| fm_cons rfl <| fm_cons rfl <| fm_cons rfl <| fm_cons rfl <| fm_cons rfl <| fm_cons rfl <| fm_cons rfl <| fm_cons rfl <| List.filterMap_nil) (by repeat first | exact Ext.refl _ | assumption | refine Ext.drew ?_ | refine Ext.alloc ?_ _ | refine Ext.setCell ?_ (by simp) | refine Ext.setCell ?_ (by simp; omega) | refine Ext.trans ?_ (by assumption)) ?_
      repeat (go_big_quiet_step ((fail)))
      refine wpQuiet_nil ?_
      refine rx_end (by kernel_rfl) ?_
      go_wp2
      go_ret
      exact ⟨ret_b (by rw [hv]), hwW.trans (by repeat first | exact Ext.refl _ | assumption | refine Ext.drew ?_ | refine Ext.alloc ?_ _ | refine Ext.setCell ?_ (by simp) | refine Ext.setCell ?_ (by simp; omega) | refine Ext.trans ?_ (by assumption))⟩
  · clear h
    by_cases a1 : 0 ≤ p ∧ p < ns.length
    · have t1 : wi p 0 (ns.length - 1) = true := by simp [wi]; omega
      by_cases a2 : 0 ≤ q ∧ q < ns.length
      · have t2 : wi q 0 (ns.length - 1) = true := by simp [wi]; omega
        have hpq : ¬ p < q := fun h => h0 ⟨a1.1, h, a2.2⟩
        have hv := lok_no2 (ns := ns) hpq
        have hpq' : q ≤ p := by omega
        clear h0 hpq
        go_enter Try.func95, Try.ntmps95
        go_wp2_with (go_at_call 67; refine (l01In_c _ _ _ _).mono ?_; rintro e w' ⟨rfl, rfl⟩)
        go_ret
        exact ⟨ret_b hv.symm, (Ext.refl _).alloc _⟩
      · have t2 : wi q 0 (ns.length - 1) = false := by simp [wi]; omega
        have hv : lok ns (p, q) = false := by
          by_cases x : p < q
          · exact lok_no3 (fun h => h0 ⟨a1.1, x, h⟩)
          · exact lok_no2 x
        clear h0
        go_enter Try.func95, Try.ntmps95
        go_wp2_with (go_at_call 67; refine (l01In_c _ _ _ _).mono ?_; rintro e w' ⟨rfl, rfl⟩)
        go_ret
        exact ⟨ret_b hv.symm, (Ext.refl _).alloc _⟩
    · have t1 : wi p 0 (ns.length - 1) = false := by simp [wi]; omega
      have hv : lok ns (p, q) = false := by
        by_cases y : 0 ≤ p
        · by_cases x : p < q
          · exact lok_no3 (fun h => h0 ⟨y, x, h⟩)
          · exact lok_no2 x
        · exact lok_no1 y
      clear h0
      go_enter Try.func95, Try.ntmps95
      go_wp2_with (go_at_call 67; refine (l01In_c _ _ _ _).mono ?_; rintro e w' ⟨rfl, rfl⟩)
      go_ret
      exact ⟨ret_b hv.symm, (Ext.refl _).alloc _⟩
end Go.Proofs.Ytpainmnekgnpeaa
