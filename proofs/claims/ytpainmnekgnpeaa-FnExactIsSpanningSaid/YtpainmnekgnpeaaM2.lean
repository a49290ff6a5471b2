import Derived.Test.YtpainmnekgnpeaaM1
import Derived.Laws.MakeOwn
import Derived.Laws.OwnMore
namespace Go.Proofs.Ytpainmnekgnpeaa
open Go.RowKit

/-- Block g is just the cells cs of type t, none frozen. -/
def Bk (w : World) (g : Nat) (t : TypeId) (cs : List Value) : Prop := w.heap[g]? = some (.cells cs.toArray t (0, 0))
section
variable {w w' : World} {g : Nat} {t : TypeId} {cs : List Value}
theorem Bk.lt (h : Bk w g t cs) : g < w.heap.size := by
  rcases Nat.lt_or_ge g w.heap.size with h' | h'
  · exact h'
  · unfold Bk at h; rw [Array.getElem?_eq_none h'] at h; cases h
theorem Bk.cell (h : Bk w g t cs) (i : Nat) : w.cell? ⟨g, i, none⟩ = cs[i]? := by
  rw [cell_of_row w g i _ t (0, 0) h]; simp
theorem Bk.froz (h : Bk w g t cs) (i : Nat) : w.frozen? ⟨g, i, none⟩ = false := by
  unfold Bk at h
  simp [World.frozen?, h]
theorem Bk.new {w : World} {g : Nat} (t : TypeId) (cs : List Value) (hg : g = w.heap.size) : Bk (w.alloc (.cells cs.toArray t)) g t cs := heap_new _ hg
theorem Bk.set_ (h : Bk w g t cs) (i : Nat) (u : Value) : Bk (w.setCell ⟨g, i, none⟩ u) g t (cs.set i u) := by
  unfold Bk at h ⊢
  simp [World.setCell, Array.getElem?_modify, h]
theorem Bk.far (h : Bk w g t cs) {p : Addr} (hp : g ≠ p.block) (u : Value) : Bk (w.setCell p u) g t cs := (Below.heap_setCell w p u g hp).trans h
theorem Bk.ext (h : Bk w g t cs) (hx : Ext w w') : Bk w' g t cs := (hx.block g h.lt).trans h
theorem Bk.drew (h : Bk w g t cs) : Bk w.drew g t cs := h
theorem Bk.sl (h : Bk w g t cs) {sz n : Nat} (hn : cs.length = n * sz) : Sl w w.heap.size sz (some ⟨g, 0, none⟩) n cs :=
  ⟨hn, fun _ => ⟨g, 0, rfl, h.lt, fun j u hu => by rw [h.cell, Nat.zero_add]; exact hu⟩⟩
end

theorem list_toArray (a : Array Value) : a = a.toList.toArray := by simp
/-- make of a slice of one-cell elements -/
theorem run_mk1 {P : Program} (t e : TypeId) (i : TypeInfo) (z : Value) (ht : P.underlying t = some (.slice e)) (hi : P.info? e = some i) (hz : i.zero = some z) (hs : i.size = 1) (hzc : z.cells = #[z])
    (n : Nat) (hb : i.bytes * n ≤ 281474976710656) (h63 : n ≤ 9223372036854775807) (w : World) :
    (Instr.makeSlice t (.int .i64 (n : Int)) (.int .i64 (n : Int))).run P w = .ok (.slice (some ⟨w.heap.size, 0, none⟩) n n) (w.alloc (.cells (List.replicate n z).toArray e)) := by
  have hb' : (i.bytes : Int) * (n : Int) ≤ 281474976710656 := by
    have h : ((i.bytes * n : Nat) : Int) ≤ 281474976710656 := by omega
    rwa [Int.natCast_mul] at h
  have hr := run_make (P := P) w t e i z ht hi hz .i64 .i64 n n (by omega) (by omega) hb' (by omega)
  simp only [Int.toNat_natCast, hs, Nat.mul_one, hzc] at hr
  rw [hr]
  have : madeCells #[z] n = (List.replicate n z).toArray := by rw [list_toArray (madeCells #[z] n), toList_madeCells_one]
  rw [this]

/-- Ints: the slice holds xs. -/
def In (w : World) (B : Nat) (A : Option Addr) (xs : List Int) : Prop := Sl w B 1 A xs.length (xs.map (Value.int .i64))
theorem In.at_ {w : World} {B : Nat} {A : Option Addr} {xs : List Int} (h : In w B A xs) {k : Nat} (hk : k < xs.length) :
    ∃ b off, A = some ⟨b, off, none⟩ ∧ b < B ∧ w.cell? ⟨b, off + k, none⟩ = some (.int .i64 xs[k]) := by
  obtain ⟨b, off, e, hlt, hc⟩ := h.2 (by omega)
  exact ⟨b, off, e, hlt, hc k _ (by simp [hk])⟩
theorem In.ext {w w' : World} {A : Option Addr} {xs : List Int} (h : In w w.heap.size A xs) (hx : Ext w w') : In w' w'.heap.size A xs := Sl.ext h hx
theorem Bk.in_ {w : World} {g : Nat} {t : TypeId} {xs : List Int} (h : Bk w g t (xs.map (Value.int .i64))) : In w w.heap.size (some ⟨g, 0, none⟩) xs := h.sl (by simp)

/-- filled up to k -/
def fil (xs : List Value) (z : Value) (k : Nat) : List Value := xs.take k ++ List.replicate (xs.length - k) z
theorem fil_zero (xs : List Value) (z : Value) : fil xs z 0 = List.replicate xs.length z := by simp [fil]
theorem fil_all (xs : List Value) (z : Value) : fil xs z xs.length = xs := by simp [fil]
theorem fil_get (xs : List Value) (z : Value) (k : Nat) (h : k < xs.length) : (fil xs z k)[k]? = some z := by
  unfold fil
  rw [List.getElem?_append_right (by rw [List.length_take]; omega), List.getElem?_replicate, if_pos (by rw [List.length_take]; omega)]
theorem fil_set (xs : List Value) (z : Value) (k : Nat) (h : k < xs.length) : (fil xs z k).set k xs[k] = fil xs z (k + 1) := by
  unfold fil
  rw [List.set_append_right _ _ (by rw [List.length_take]; omega)]
  have e1 : xs.length - k = (xs.length - (k + 1)) + 1 := by omega
  have e2 : k - (List.take k xs).length = 0 := by rw [List.length_take]; omega
  rw [e2, e1, List.replicate_succ, List.set_cons_zero, List.take_succ_eq_append_getElem h, List.append_assoc]
  rfl
end Go.Proofs.Ytpainmnekgnpeaa
