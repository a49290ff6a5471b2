import Derived.Test.YtdhmjhoaegdfjaaGreatG1
import Derived.Test.YtdhmjhoaegdfjaaGreatRows
import Derived.Deep.Slices
import Derived.ChangeSame
import Derived.Lib.SmallJoins
import Derived.WideShapes
import Derived.OpenShut
import Derived.ProofKit
namespace Go.Proofs.YtdhmjhoaegdfjaaGreat
open Go.Joins Go.ChangeShapes Go.WideShapes Go.ChangeAt Go.RowKit

set_option maxRecDepth 100000 in
theorem open_bytes {H : Type} {enc : TypeId × Value → H} {w : World} {base : Nat} {spare : Nat → Bool} {held : Bool} {b0 : Nat} {v : Value} {d : DataW H} {p : List MemPlace}
    (hv : Value.okWide Tryz.prog w .any b0 22 v) (h : DataW.Trod enc Tryz.prog w base spare held 22 v d p) :
    ∃ (A : Option Addr) (n c : Nat) (xs : List Int), v = .slice A n c ∧ n ≤ 9223372036854775807 ∧ (∀ x ∈ xs, 0 ≤ x ∧ x < 256) ∧ Sl w w.heap.size 1 A n (xs.map (Value.int .u8)) := by
  obtain ⟨a0, len0, cap0, rfl⟩ := okWide_slice Tryz.underlying22 hv
  refine ⟨a0, len0, cap0, ?_⟩
  obtain ⟨fuel, hf⟩ := h
  rcases open_ints Tryz.underlying22 Tryz.underlying5 (by kernel_rfl) hf with ⟨hcs, _⟩ | ⟨x, l, c, zs, hcs, _, hl, hm, hz, _, hcell, hwf⟩
  · simp [Value.cells] at hcs
    obtain ⟨rfl, rfl, rfl⟩ := hcs
    exact ⟨[], rfl, by omega, by simp, rfl, fun h => absurd h (by simp)⟩
  · simp [Value.cells] at hcs
    obtain ⟨rfl, rfl, rfl⟩ := hcs
    have hzl : len0 ≤ zs.length := by rw [hz]; split <;> omega
    unfold maxLen at hm
    refine ⟨zs.take len0, rfl, by omega, fun x hx => ?_, by simp; omega, fun hn => ?_⟩
    · have := bounds_u8 (hwf x (List.mem_of_mem_take hx))
      omega
    obtain ⟨b, off, rfl, hc⟩ := ints_at hcell (by omega)
    refine ⟨b, off, rfl, ?_, fun j u hu => ?_⟩
    · exact block_lt_of_cell (hc 0 (by omega))
    · rw [List.getElem?_map] at hu
      cases hg : (zs.take len0)[j]? with
      | none => rw [hg] at hu; cases hu
      | some y =>
        rw [hg] at hu
        simp at hu
        subst hu
        rw [List.getElem?_take] at hg
        split at hg
        · have hj : j < zs.length := by
            rcases Nat.lt_or_ge j zs.length with h | h
            · exact h
            · rw [List.getElem?_eq_none h] at hg; cases hg
          rw [hc j hj]
          congr 2
          rw [List.getD_eq_getElem?_getD, hg]; rfl
        · cases hg
end Go.Proofs.YtdhmjhoaegdfjaaGreat
