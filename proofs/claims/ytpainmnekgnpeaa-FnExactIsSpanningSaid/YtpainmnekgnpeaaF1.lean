import Derived.Test.YtpainmnekgnpeaaM1
import Derived.Deep.Slices
import Derived.Deep.SlicePairs
import Derived.ChangeSame
import Derived.Lib.SmallJoins
import Derived.WideShapes
namespace Go.Proofs.Ytpainmnekgnpeaa
open Go.Joins Go.ChangeShapes Go.WideShapes Go.RowKit Go.Deep
section
variable {H : Type} {enc : TypeId × Value → H} {P : Program} {w : World} {base : Nat} {spare : Nat → Bool} {held : Bool}
theorem pairs_of {w : World} {b off : Nat} : ∀ n, (∀ i, i < n → ∃ x y : Int, w.cell? ⟨b, off + i * 2, none⟩ = some (.int .i64 x) ∧ w.cell? ⟨b, off + i * 2 + 1, none⟩ = some (.int .i64 y)) →
    ∃ l : List (Int × Int), l.length = n ∧ ∀ j u, (l.flatMap pc)[j]? = some u → w.cell? ⟨b, off + j, none⟩ = some u
  | 0, _ => ⟨[], rfl, fun j u h => by simp at h⟩
  | n + 1, h => by
    obtain ⟨l, hl, hc⟩ := pairs_of n (fun i hi => h i (by omega))
    obtain ⟨x, y, h1, h2⟩ := h n (by omega)
    refine ⟨l ++ [(x, y)], by simp [hl], fun j u hj => ?_⟩
    have hp := pcs_length l
    rw [List.flatMap_append] at hj
    rcases Nat.lt_or_ge j (l.length * 2) with hlt | hge
    · rw [List.getElem?_append_left (by omega)] at hj
      exact hc j u hj
    · rw [List.getElem?_append_right (by omega), hp, hl] at hj
      have hk : j - n * 2 < 2 := by
        rcases Nat.lt_or_ge (j - n * 2) 2 with h' | h'
        · exact h'
        · simp [pc] at hj
          rw [List.getElem?_eq_none (by simpa using h')] at hj
          cases hj
      have : j = n * 2 ∨ j = n * 2 + 1 := by omega
      rcases this with rfl | rfl
      · simp [pc] at hj; subst hj; exact h1
      · simp [pc, show n * 2 + 1 - n * 2 = 1 by omega] at hj; subst hj; exact h2

theorem open_pairs {t e : TypeId} {f0 f1 : Field} {fuel : Nat} {cs : List Value} {x : DataW H × List MemPlace} (ht : P.underlying t = some (.slice e)) (he : P.underlying e = some (.struct #[f0, f1]))
    (ce : P.cellsOf e = 2) (o0 : f0.offset = 0) (o1 : f1.offset = 1) (c0 : P.cellsOf f0.type = 1) (c1 : P.cellsOf f1.type = 1) (i0 : P.underlying f0.type = some (.int .i64)) (i1 : P.underlying f1.type = some (.int .i64))
    (h : DataW.trod enc P w base spare held fuel t cs = some x) :
    ∃ (A : Option Addr) (n c : Nat) (l : List (Int × Int)), cs = [.slice A n c] ∧ n = l.length ∧ n ≤ 9223372036854775807 ∧ Pr w w.heap.size A l := by
  rcases open_slice_pairs ht he ce o0 o1 c0 c1 h with ⟨rfl, _⟩ | ⟨a, len, cap, m, n, V0, V1, D0, D1, P0, P1, rfl, _, hl, hm, hmm, _, hi⟩
  · exact ⟨none, 0, 0, [], rfl, rfl, by omega, rfl, fun h => absurd h (by simp)⟩
  · have hlm : len ≤ m := by rw [hmm]; split <;> omega
    unfold maxLen at hm
    have hv : ∀ i, i < len → ∃ x y : Int, w.cell? (a.add (i * 2)) = some (.int .i64 x) ∧ w.cell? (a.add (i * 2 + 1)) = some (.int .i64 y) := by
      intro i hil
      obtain ⟨h0, h1, h2, h3⟩ := hi i (by omega)
      obtain ⟨x, hx, _⟩ := DataW.trod_int i0 h2
      obtain ⟨y, hy, _⟩ := DataW.trod_int i1 h3
      injection hx with hx
      injection hy with hy
      exact ⟨x, y, by rw [h0, hx], by rw [h1, hy]⟩
    rcases Nat.eq_zero_or_pos len with rfl | hp
    · exact ⟨some a, 0, cap, [], rfl, rfl, by omega, rfl, fun h => absurd h (by simp)⟩
    · obtain ⟨b, off, spot⟩ := a
      have hs : spot = none := by
        obtain ⟨x, y, h0, _⟩ := hv 0 hp
        simpa [Addr.add] using World.cell?_spot h0
      subst hs
      obtain ⟨l, hll, hc⟩ := pairs_of (w := w) (b := b) (off := off) len (fun i hil => by
        obtain ⟨x, y, h0, h1⟩ := hv i hil
        rw [add_plain] at h0 h1
        exact ⟨x, y, h0, h1⟩)
      refine ⟨_, len, cap, l, rfl, hll.symm, by omega, pcs_length l, fun _ => ⟨b, off, rfl, ?_, hc⟩⟩
      obtain ⟨x, y, h0, _⟩ := hv 0 hp
      rw [add_plain] at h0
      exact block_lt_of_cell h0
end
end Go.Proofs.Ytpainmnekgnpeaa
