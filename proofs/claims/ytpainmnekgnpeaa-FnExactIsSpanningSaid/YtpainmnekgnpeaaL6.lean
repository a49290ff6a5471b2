import Derived.Test.YtpainmnekgnpeaaL4
import Derived.Test.YtpainmnekgnpeaaL3
namespace Go.Proofs.Ytpainmnekgnpeaa
open Go.RowKit Go.Sort Go.BigFrame

theorem OwI.blk {w : World} {B : Nat} {v : Value} {xs : List Int} (h : OwI w B v xs) : ∀ q, v.ownBlock = some q → B ≤ q ∧ q < w.heap.size := World.ownsRow.lt h
theorem OwP.blk {w : World} {B : Nat} {t : TypeId} {v : Value} {xs : List P2} (h : OwP w B t v xs) : ∀ q, v.ownBlock = some q → B ≤ q ∧ q < w.heap.size := World.ownsRow.lt h
theorem OwI.gb {w w' : World} {B : Nat} {v : Value} {xs : List Int} {r : Option Nat} (h : OwI w B v xs) (k : w.grownBy w' r) (hr : ∀ g, v.ownBlock = some g → r ≠ some g) : OwI w' B v xs := gb_own h k hr
theorem OwP.gb {w w' : World} {B : Nat} {t : TypeId} {v : Value} {xs : List P2} {r : Option Nat} (h : OwP w B t v xs) (k : w.grownBy w' r) (hr : ∀ g, v.ownBlock = some g → r ≠ some g) : OwP w' B t v xs := gb_own h k hr
theorem OwI.in' {w : World} {B n c : Nat} {A : Option Addr} {xs : List Int} (h : OwI w B (.slice A n c) xs) : In w w.heap.size A xs := by
  obtain ⟨A', c', e, _, _, hi⟩ := h.shape
  injection e with e1 e2 e3
  subst e1
  exact hi
theorem OwI.len {w : World} {B n c : Nat} {A : Option Addr} {xs : List Int} (h : OwI w B (.slice A n c) xs) : n = xs.length := by
  obtain ⟨A', c', e, _, _, hi⟩ := h.shape
  injection e

theorem eqIntS_t (A B : Option Addr) (c d : Nat) (xs : List Int) (w : World) (hl : xs.length ≤ 1048576) (h : In w w.heap.size A xs) (h' : In w w.heap.size B xs) :
    Calls Try.prog 18 #[.slice A xs.length c, .slice B xs.length d] w fun e w' => e = .returned (.bool true) ∧ Ext w w' :=
  (eqIntS_c A B c d xs xs w hl hl h h').mono fun _ _ ⟨h1, h2⟩ => ⟨by simpa using h1, h2⟩

set_option maxRecDepth 100000 in
set_option maxHeartbeats 1000000 in
theorem markWindow_c (A B : Option Addr) (c d n m : Nat) (ns ls : List P2) (k : Int) (w : World) {B1 B2 : Nat} (h : OwP w B1 47 (.slice A n c) ns) (g : OwP w B2 65 (.slice B m d) ls)
    (hl : ns.length ≤ 2000000) (hm : ls.length ≤ 2000000) (k0 : 0 ≤ k) (k1 : k ≤ 10000000) (hne : ∀ q, (Value.slice A n c).ownBlock = some q → (Value.slice B m d).ownBlock ≠ some q) :
    Calls Try.prog 31 #[.agg #[.slice A n c, .slice B m d], .int .i64 k] w fun e w' => e = .returned (.int .i64 (k + 2 * ns.length + 2 * ls.length)) ∧
      OwP w' B1 47 (.slice A n c) (mkp k ns.length) ∧ OwP w' B2 65 (.slice B m d) (mkp (k + 2 * ns.length) ls.length) ∧
      ∃ wm, w.grownBy wm (Value.slice A n c).ownBlock ∧ wm.grownBy w' (Value.slice B m d).ownBlock := by
  have hx0 : Ext w (w.alloc (.cells #[.slice A n c, .slice B m d] 36)) := (by repeat first | exact Ext.refl _ | assumption | refine Ext.drew ?_ | refine Ext.alloc ?_ _ | refine Ext.setCell ?_ (by simp) | refine Ext.setCell ?_ (by simp; omega) | refine Ext.trans ?_ (by assumption))
  have hA := h.blk
  have hB := g.blk
  have h1 := h.ext hx0
  have g1 := g.ext hx0
  go_enter Try.func31, Try.ntmps31
  go_wp2_with fail
  refine (markNodeS_c _ ns k _ h1 hl k0 (by omega)).mono ?_
  rintro e w1 ⟨rfl, h2, gr⟩
  have c1 : w1.cell? ⟨w.heap.size, 1, none⟩ = some (.slice B m d) := gb_lit gr (by go_simp) (fun e => by have := hA _ e; omega)
  have g2 := g1.gb gr (fun q hq e => hne q e hq)
  clear h1 g1
  go_wp2_with fail
  refine (markLeadS_c _ ls _ _ g2 hm (by omega) (by omega)).mono ?_
  rintro e w2 ⟨rfl, g3, gr2⟩
  have h3 := h2.gb gr2 (fun q hq e => hne q hq e)
  go_wp2
  go_ret
  exact ⟨rfl, h3, g3, w1, gb_trans (gb_ext hx0) gr, gr2⟩

set_option maxRecDepth 100000 in
set_option maxHeartbeats 1000000 in
theorem heldWindow_c (A B : Option Addr) (c d n m : Nat) (a b : Nat) (k : Int) (w : World) {B1 B2 : Nat} (h : OwP w B1 47 (.slice A n c) (mkp k a)) (g : OwP w B2 65 (.slice B m d) (mkp (k + 2 * a) b))
    (hl : a ≤ 2000000) (hm : b ≤ 2000000) (k0 : 0 ≤ k) (k1 : k ≤ 10000000) :
    Calls Try.prog 32 #[.agg #[.slice A n c, .slice B m d], .int .i64 k] w fun e w' => e = .returned (.int .i64 (k + 2 * a + 2 * b)) ∧ Ext w w' := by
  have hx0 : Ext w (w.alloc (.cells #[.slice A n c, .slice B m d] 36)) := (by repeat first | exact Ext.refl _ | assumption | refine Ext.drew ?_ | refine Ext.alloc ?_ _ | refine Ext.setCell ?_ (by simp) | refine Ext.setCell ?_ (by simp; omega) | refine Ext.trans ?_ (by assumption))
  have h1 := h.ext hx0
  have g1 := g.ext hx0
  go_enter Try.func32, Try.ntmps32
  go_wp2_with fail
  refine (heldNodeS_c _ a k _ h1 hl k0 (by omega)).mono ?_
  rintro e w1 ⟨rfl, rfl⟩
  go_wp2_with fail
  refine (heldLeadS_c _ b _ _ g1 hm (by omega) (by omega)).mono ?_
  rintro e w2 ⟨rfl, rfl⟩
  go_wp2
  go_ret
  exact ⟨rfl, (by repeat first | exact Ext.refl _ | assumption | refine Ext.drew ?_ | refine Ext.alloc ?_ _ | refine Ext.setCell ?_ (by simp) | refine Ext.setCell ?_ (by simp; omega) | refine Ext.trans ?_ (by assumption))⟩
end Go.Proofs.Ytpainmnekgnpeaa
