import Derived.Test.YtdcghlklikbfcaaG1
import Derived.Deep.Slices
import Derived.Deep.SlicePairs
import Derived.ChangeSame
import Derived.Lib.SmallJoins
import Derived.WideShapes
import Derived.Test.YtdcghlklikbfcaaRows
import Derived.OpenShut
import Derived.ProofKit
namespace Go.Proofs.Ytdcghlklikbfcaa
open Go.Joins Go.ChangeShapes Go.WideShapes Go.RowKit Go.Deep
section
variable {H : Type} {enc : TypeId × Value → H} {P : Program} {w : World} {base : Nat} {spare : Nat → Bool} {held : Bool}
theorem pairs_of {w : World} {b off : Nat} : ∀ n, (∀ i, i < n → ∃ x y : Int, w.cell? ⟨b, off + i * 2, none⟩ = some (.int .i64 x) ∧ w.cell? ⟨b, off + i * 2 + 1, none⟩ = some (.int .i64 y)) →
    ∃ l : List (Int × Int), l.length = n ∧ ∀ j u, (l.flatMap pc)[j]? = some u → w.cell? ⟨b, off + j, none⟩ = some u
  | 0, _ => ⟨[], rfl, fun j u h => by simp at h⟩
  | n + 1, h => by
    obtain ⟨l, hl, hc⟩ := pairs_of n (fun i hi => h i (by omega))
    obtain ⟨x, y, h1, h2⟩ := h n (by omega)
    refine ⟨l ++ [(x, y)], by simp [hl], fun j u hj => ?_⟩
    have hp := pcs_length l
    rw [List.flatMap_append] at hj
    rcases Nat.lt_or_ge j (l.length * 2) with hlt | hge
    · rw [List.getElem?_append_left (by omega)] at hj
      exact hc j u hj
    · rw [List.getElem?_append_right (by omega), hp, hl] at hj
      have hk : j - n * 2 < 2 := by
        rcases Nat.lt_or_ge (j - n * 2) 2 with h' | h'
        · exact h'
        · simp [pc] at hj
          rw [List.getElem?_eq_none (by simpa using h')] at hj
          cases hj
      have : j = n * 2 ∨ j = n * 2 + 1 := by omega
      rcases this with rfl | rfl
      · simp [pc] at hj; subst hj; exact h1
      · simp [pc, show n * 2 + 1 - n * 2 = 1 by omega] at hj; subst hj; exact h2

theorem open_pairs {t e : TypeId} {f0 f1 : Field} {fuel : Nat} {cs : List Value} {x : DataW H × List MemPlace} (ht : P.underlying t = some (.slice e)) (he : P.underlying e = some (.struct #[f0, f1]))
    (ce : P.cellsOf e = 2) (o0 : f0.offset = 0) (o1 : f1.offset = 1) (c0 : P.cellsOf f0.type = 1) (c1 : P.cellsOf f1.type = 1) (i0 : P.underlying f0.type = some (.int .i64)) (i1 : P.underlying f1.type = some (.int .i64))
    (h : DataW.trod enc P w base spare held fuel t cs = some x) :
    ∃ (A : Option Addr) (n c : Nat) (l : List (Int × Int)), cs = [.slice A n c] ∧ n = l.length ∧ n ≤ 9223372036854775807 ∧ Pr w w.heap.size A l := by
  rcases open_slice_pairs ht he ce o0 o1 c0 c1 h with ⟨rfl, _⟩ | ⟨a, len, cap, m, n, V0, V1, D0, D1, P0, P1, rfl, _, hl, hm, hmm, _, hi⟩
  · exact ⟨none, 0, 0, [], rfl, rfl, by omega, rfl, fun h => absurd h (by simp)⟩
  · have hlm : len ≤ m := by rw [hmm]; split <;> omega
    unfold maxLen at hm
    have hv : ∀ i, i < len → ∃ x y : Int, w.cell? (a.add (i * 2)) = some (.int .i64 x) ∧ w.cell? (a.add (i * 2 + 1)) = some (.int .i64 y) := by
      intro i hil
      obtain ⟨h0, h1, h2, h3⟩ := hi i (by omega)
      obtain ⟨x, hx, _⟩ := DataW.trod_int i0 h2
      obtain ⟨y, hy, _⟩ := DataW.trod_int i1 h3
      injection hx with hx
      injection hy with hy
      exact ⟨x, y, by rw [h0, hx], by rw [h1, hy]⟩
    rcases Nat.eq_zero_or_pos len with rfl | hp
    · exact ⟨some a, 0, cap, [], rfl, rfl, by omega, rfl, fun h => absurd h (by simp)⟩
    · obtain ⟨b, off, spot⟩ := a
      have hs : spot = none := by
        obtain ⟨x, y, h0, _⟩ := hv 0 hp
        simpa [Addr.add] using World.cell?_spot h0
      subst hs
      obtain ⟨l, hll, hc⟩ := pairs_of (w := w) (b := b) (off := off) len (fun i hil => by
        obtain ⟨x, y, h0, h1⟩ := hv i hil
        rw [add_plain] at h0 h1
        exact ⟨x, y, h0, h1⟩)
      refine ⟨_, len, cap, l, rfl, hll.symm, by omega, pcs_length l, fun _ => ⟨b, off, rfl, ?_, hc⟩⟩
      obtain ⟨x, y, h0, _⟩ := hv 0 hp
      rw [add_plain] at h0
      exact block_lt_of_cell h0
end
end Go.Proofs.Ytdcghlklikbfcaa

namespace Go.Proofs.Ytdcghlklikbfcaa
open Go.Joins Go.ChangeShapes Go.WideShapes Go.RowKit Go.Deep

set_option maxRecDepth 100000 in
theorem open_window {H : Type} {enc : TypeId × Value → H} {w : World} {base : Nat} {spare : Nat → Bool} {held : Bool} {r : Reach} {b0 : Nat} {v : Value} {d : DataW H} {p : List MemPlace}
    (hv : Value.okWide Try.prog w r b0 25 v) (h : DataW.Trod enc Try.prog w base spare held 25 v d p) :
    ∃ (A : Option Addr) (n c : Nat) (B : Option Addr) (m d' : Nat) (ns ls : List (Int × Int)), v = .agg #[.slice A n c, .slice B m d'] ∧ n = ns.length ∧ m = ls.length ∧ n ≤ 9223372036854775807 ∧ m ≤ 9223372036854775807 ∧
      Pr w w.heap.size A ns ∧ Pr w w.heap.size B ls := by
  obtain ⟨v0, v1, y0, y1, n, rfl, -, -, h0, h1⟩ := open_agg2 Try.underlying25 (by kernel_rfl) (by kernel_rfl) hv h
  obtain ⟨A, n, c, ns, e0, hn, hn63, hA⟩ := open_pairs Try.underlying22 Try.underlying73 (by kernel_rfl) rfl rfl (by kernel_rfl) (by kernel_rfl) Try.underlying3 Try.underlying3 h0
  obtain ⟨B, m, d', ls, e1, hm, hm63, hB⟩ := open_pairs Try.underlying23 Try.underlying75 (by kernel_rfl) rfl rfl (by kernel_rfl) (by kernel_rfl) Try.underlying3 Try.underlying3 h1
  injection e0 with e0
  injection e1 with e1
  subst e0
  subst e1
  exact ⟨A, n, c, B, m, d', ns, ls, rfl, hn, hm, hn63, hm63, hA, hB⟩
end Go.Proofs.Ytdcghlklikbfcaa

namespace Go.Proofs.Ytdcghlklikbfcaa
open Go.Joins Go.ChangeShapes Go.WideShapes Go.ChangeAt Go.RowKit

set_option maxRecDepth 100000 in
theorem open_islice {H : Type} {enc : TypeId × Value → H} {w : World} {base : Nat} {spare : Nat → Bool} {held : Bool} {b0 : Nat} {v : Value} {d : DataW H} {p : List MemPlace}
    (hv : Value.okWide Try.prog w .any b0 41 v) (h : DataW.Trod enc Try.prog w base spare held 41 v d p) :
    ∃ (A : Option Addr) (n c : Nat) (xs : List Int), v = .slice A n c ∧ n = xs.length ∧ n ≤ 9223372036854775807 ∧ In w w.heap.size A xs := by
  obtain ⟨a0, len0, cap0, rfl⟩ := okWide_slice Try.underlying41 hv
  refine ⟨a0, len0, cap0, ?_⟩
  obtain ⟨fuel, hf⟩ := h
  rcases open_ints Try.underlying41 Try.underlying3 (by kernel_rfl) hf with ⟨hcs, _⟩ | ⟨x, l, c, zs, hcs, _, hl, hm, hz, _, hcell, _⟩
  · simp [Value.cells] at hcs
    obtain ⟨rfl, rfl, rfl⟩ := hcs
    exact ⟨[], rfl, rfl, by omega, rfl, fun h => absurd h (by simp)⟩
  · simp [Value.cells] at hcs
    obtain ⟨rfl, rfl, rfl⟩ := hcs
    have hzl : len0 ≤ zs.length := by rw [hz]; split <;> omega
    unfold maxLen at hm
    refine ⟨zs.take len0, rfl, by rw [List.length_take]; omega, by omega, by simp, fun hn => ?_⟩
    rw [List.length_take] at hn
    obtain ⟨b, off, rfl, hc⟩ := ints_at hcell (by omega)
    refine ⟨b, off, rfl, ?_, fun j u hu => ?_⟩
    · exact block_lt_of_cell (hc 0 (by omega))
    · rw [List.getElem?_map] at hu
      cases hg : (zs.take len0)[j]? with
      | none => rw [hg] at hu; cases hu
      | some y =>
        rw [hg] at hu
        simp at hu
        subst hu
        rw [List.getElem?_take] at hg
        split at hg
        · have hj : j < zs.length := by
            rcases Nat.lt_or_ge j zs.length with h | h
            · exact h
            · rw [List.getElem?_eq_none h] at hg; cases hg
          rw [hc j hj]
          congr 2
          rw [List.getD_eq_getElem?_getD, hg]; rfl
        · cases hg
set_option maxRecDepth 100000 in
theorem open_i {H : Type} {enc : TypeId × Value → H} {w : World} {base : Nat} {spare : Nat → Bool} {held : Bool} {b0 : Nat} {v : Value} {d : DataW H} {p : List MemPlace}
    (hv : Value.okWide Try.prog w .any b0 3 v) (h : DataW.Trod enc Try.prog w base spare held 3 v d p) : ∃ k : Int, v = .int .i64 k ∧ -9223372036854775808 ≤ k ∧ k ≤ 9223372036854775807 := by
  obtain ⟨n, rfl, _, _, hw⟩ := open_int Try.underlying3 hv h
  simp only [Lit.wf, Bool.and_eq_true, decide_eq_true_eq] at hw
  exact ⟨n, rfl, hw.1, hw.2⟩
set_option maxRecDepth 100000 in
theorem open_nd {H : Type} {enc : TypeId × Value → H} {w : World} {base : Nat} {spare : Nat → Bool} {held : Bool} {b0 : Nat} {v : Value} {d : DataW H} {p : List MemPlace}
    (hv : Value.okWide Try.prog w .any b0 73 v) (h : DataW.Trod enc Try.prog w base spare held 73 v d p) : ∃ x y : Int, v = .agg #[.int .i64 x, .int .i64 y] := by
  obtain ⟨v0, v1, y0, y1, n, rfl, -, -, h0, h1⟩ := open_agg2 Try.underlying73 (by kernel_rfl) (by kernel_rfl) hv h
  obtain ⟨x, e0, _⟩ := DataW.trod_int Try.underlying3 h0
  obtain ⟨y, e1, _⟩ := DataW.trod_int Try.underlying3 h1
  injection e0 with e0
  injection e1 with e1
  subst e0
  subst e1
  exact ⟨x, y, rfl⟩
end Go.Proofs.Ytdcghlklikbfcaa
