import Derived.Test.YtdhmjhoaegdfjaaV1
import Derived.Test.YtdhmjhoaegdfjaaG9
import Derived.Test.YtdhmjhoaegdfjaaR2
import Derived.Deep.DeepCutAuto
namespace Go.Proofs.Ytdhmjhoaegdfjaa
open Go.RowKit Go.Sort Go.BigFrame

theorem pr_of {w : World} {B n c : Nat} {t : TypeId} {A : Option Addr} {l : List P2} (h : OwP w B t (.slice A n c) l) : Pr w w.heap.size A l := by
  obtain ⟨A1, c1, e1, _, _, a3⟩ := h.shape
  injection e1 with e1 _ _
  subst e1
  exact a3

section
variable {P : Program} {Q : Exit → Act → World → Prop} {W w : World} {l : List Oper} {a : Act}
theorem rx_genD {SL : List Sm} {L k m : Nat} {u0 u1 : Value} {T : TypeId} (hW : Ext W w)
    (h : ∀ w', Ext w w' → w'.cell? ⟨w.heap.size, 0, none⟩ = some u0 → w'.cell? ⟨w.heap.size, 1, none⟩ = some u1 → w'.frozen? ⟨w.heap.size, 0, none⟩ = false → w'.frozen? ⟨w.heap.size, 1, none⟩ = false → w.heap.size < w'.heap.size → W.heap.size ≤ w.heap.size →
      Rx P Q W l SL L k m a w') : Rx P Q W l SL L k m a (w.alloc (.cells #[u0, u1] T)).drew := by
  refine h _ (((Ext.refl w).alloc _).drew) ?_ ?_ ?_ ?_ (by show w.heap.size < (w.alloc _).heap.size; simp) hW.size
  · show (w.alloc _).cell? _ = _
    rw [cell_of_row _ w.heap.size 0 _ T (0, 0) (heap_alloc_new w _)]; rfl
  · show (w.alloc _).cell? _ = _
    rw [cell_of_row _ w.heap.size 1 _ T (0, 0) (heap_alloc_new w _)]; rfl
  · show (w.alloc _).frozen? _ = _
    exact frozen_of_row _ w.heap.size 0 _ T (heap_alloc_new w _)
  · show (w.alloc _).frozen? _ = _
    exact frozen_of_row _ w.heap.size 1 _ T (heap_alloc_new w _)
end
end Go.Proofs.Ytdhmjhoaegdfjaa
