import Derived.WalkKit
import Derived.Below
import Derived.Laws.OwnMore
import Derived.Deep.AppendLies
import Derived.Deep.Draws
namespace Go.Proofs.Ytpainmnekgnpeaa
open Go.RowKit

theorem ret_b {a b : Bool} (h : a = b) : Ending.returned (.bool a) = .returned (.bool b) := by rw [h]
theorem ret_i {a b : Int} (h : a = b) : Ending.returned (.int .i64 a) = .returned (.int .i64 b) := by rw [h]

/-- Slice words: the slice (A, n, c) holds the cells cs (sz cells an element), below block B. -/
def Sl (w : World) (B sz : Nat) (A : Option Addr) (n : Nat) (cs : List Value) : Prop :=
  cs.length = n * sz ∧ (0 < n → ∃ b off, A = some ⟨b, off, none⟩ ∧ b < B ∧ ∀ j u, cs[j]? = some u → w.cell? ⟨b, off + j, none⟩ = some u)

def ic (x : Int) : Value := .int .i64 x
def pc (p : Int × Int) : List Value := [.int .i64 p.1, .int .i64 p.2]
def pv (p : Int × Int) : Value := .agg #[.int .i64 p.1, .int .i64 p.2]

theorem pcs_length (l : List (Int × Int)) : (l.flatMap pc).length = l.length * 2 := by
  induction l with
  | nil => rfl
  | cons a t ih => simp [List.flatMap_cons, ih, pc]; omega

theorem pcs_get (l : List (Int × Int)) (k : Nat) (h : k < l.length) :
    (l.flatMap pc)[k * 2]? = some (.int .i64 l[k].1) ∧ (l.flatMap pc)[k * 2 + 1]? = some (.int .i64 l[k].2) := by
  induction l generalizing k with
  | nil => simp at h
  | cons a t ih =>
    cases k with
    | zero => simp [List.flatMap_cons, pc]
    | succ k =>
      have := ih k (by simpa using h)
      have e : (k + 1) * 2 = k * 2 + 2 := by omega
      simpa [List.flatMap_cons, pc, e] using this

section
variable {w w' : World} {B B' sz n : Nat} {A : Option Addr} {cs : List Value}
theorem Sl.below (h : Sl w B sz A n cs) (hb : Below B w w') : Sl w' B sz A n cs :=
  ⟨h.1, fun hn => by
    obtain ⟨b, off, e, hlt, hc⟩ := h.2 hn
    exact ⟨b, off, e, hlt, fun j u hu => (hb.cell (p := ⟨b, off + j, none⟩) hlt).trans (hc j u hu)⟩⟩
theorem Sl.more (h : Sl w B sz A n cs) (hB : B ≤ B') : Sl w B' sz A n cs :=
  ⟨h.1, fun hn => by
    obtain ⟨b, off, e, hlt, hc⟩ := h.2 hn
    exact ⟨b, off, e, by omega, hc⟩⟩
end

/-- Pairs (nodes, leads): the slice holds the pairs l. -/
def Pr (w : World) (B : Nat) (A : Option Addr) (l : List (Int × Int)) : Prop := Sl w B 2 A l.length (l.flatMap pc)

theorem Pr.at_ {w : World} {B : Nat} {A : Option Addr} {l : List (Int × Int)} (h : Pr w B A l) {k : Nat} (hk : k < l.length) :
    ∃ b off, A = some ⟨b, off, none⟩ ∧ b < B ∧ w.cell? ⟨b, off + k * 2, none⟩ = some (.int .i64 l[k].1) ∧ w.cell? ⟨b, off + k * 2 + 1, none⟩ = some (.int .i64 l[k].2) := by
  obtain ⟨b, off, e, hlt, hc⟩ := h.2 (by omega)
  obtain ⟨h1, h2⟩ := pcs_get l k hk
  exact ⟨b, off, e, hlt, hc _ _ h1, by rw [Nat.add_assoc]; exact hc _ _ h2⟩
theorem Pr.below {w w' : World} {B : Nat} {A : Option Addr} {l : List (Int × Int)} (h : Pr w B A l) (hb : Below B w w') : Pr w' B A l := Sl.below h hb

theorem bcell {B : Nat} {w w1 : World} (hb : Below B w w1) : ∀ b o, b < B → w1.cell? ⟨b, o, none⟩ = w.cell? ⟨b, o, none⟩ := fun b o h => hb.cell (p := ⟨b, o, none⟩) h
theorem bfroz {B : Nat} {w w1 : World} (hb : Below B w w1) : ∀ b o, b < B → w1.frozen? ⟨b, o, none⟩ = w.frozen? ⟨b, o, none⟩ := fun b o h => hb.frozen (p := ⟨b, o, none⟩) h

theorem heap_new {w : World} {g : Nat} (o : Obj) (h : g = w.heap.size) : (w.alloc o).heap[g]? = some o := by subst h; exact heap_alloc_new w o
theorem heap_new_d {w : World} {g : Nat} (o : Obj) (h : g = w.heap.size) : (w.alloc o).drew.heap[g]? = some o := heap_new o h
/-- Ext: nothing that was there has turned. -/
def Ext (w w' : World) : Prop := Below w.heap.size w w'
theorem Ext.refl (w : World) : Ext w w := Below.refl _ _
theorem Ext.trans {a b c : World} (h : Ext a b) (k : Ext b c) : Ext a c := Below.trans h (Below.mono k h.size)
theorem Ext.alloc {a w : World} (h : Ext a w) (o : Obj) : Ext a (w.alloc o) := Below.alloc h h.size o
theorem Ext.setCell {a w : World} (h : Ext a w) {p : Addr} {v : Value} (hp : a.heap.size ≤ p.block) : Ext a (w.setCell p v) := Below.setCell h hp v
theorem Ext.drew {a w : World} (h : Ext a w) : Ext a w.drew := Below.drew h
theorem Ext.drewN {a w : World} (h : Ext a w) (n : Nat) : Ext a (w.drewN n) := ⟨h.os, h.tape, h.output, h.size, h.block⟩
theorem Ext.cell {w w1 : World} (hb : Ext w w1) : ∀ b o, b < w.heap.size → w1.cell? ⟨b, o, none⟩ = w.cell? ⟨b, o, none⟩ := bcell hb
theorem Ext.lit {w w1 : World} (hb : Ext w w1) {b o : Nat} {v : Value} (h : w.cell? ⟨b, o, none⟩ = some v) : w1.cell? ⟨b, o, none⟩ = some v := by
  rw [hb.cell _ _ (block_lt_of_cell h)]; exact h

theorem Sl.ext {w w' : World} {sz n : Nat} {A : Option Addr} {cs : List Value} (h : Sl w w.heap.size sz A n cs) (hx : Ext w w') : Sl w' w'.heap.size sz A n cs := (h.below hx).more hx.size
theorem Pr.ext {w w' : World} {A : Option Addr} {l : List (Int × Int)} (h : Pr w w.heap.size A l) (hx : Ext w w') : Pr w' w'.heap.size A l := Sl.ext h hx
/-! The standing condition of a region that draws: cells of old blocks are as they were. -/
theorem sb_start (W : World) : (∀ b o, b < W.heap.size → W.drew.cell? ⟨b, o, none⟩ = W.cell? ⟨b, o, none⟩) ∧ Ext W W.drew := ⟨fun _ _ _ => rfl, (Ext.refl _).drew⟩
theorem sb_ext {W w w2 : World} (h : (∀ b o, b < W.heap.size → w.cell? ⟨b, o, none⟩ = W.cell? ⟨b, o, none⟩) ∧ Ext W w) (k : Ext w w2) :
    (∀ b o, b < W.heap.size → w2.cell? ⟨b, o, none⟩ = W.cell? ⟨b, o, none⟩) ∧ Ext W w2 := ⟨(h.2.trans k).cell, h.2.trans k⟩
theorem sb_alloc {W w : World} {x : Obj} (h : (∀ b o, b < W.heap.size → w.cell? ⟨b, o, none⟩ = W.cell? ⟨b, o, none⟩) ∧ Ext W w) :
    (∀ b o, b < W.heap.size → (w.alloc x).cell? ⟨b, o, none⟩ = W.cell? ⟨b, o, none⟩) ∧ Ext W (w.alloc x) := sb_ext h ((Ext.refl _).alloc _)
end Go.Proofs.Ytpainmnekgnpeaa
