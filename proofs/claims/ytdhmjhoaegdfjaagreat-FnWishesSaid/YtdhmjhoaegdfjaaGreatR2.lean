import Derived.Test.YtdhmjhoaegdfjaaGreatG1
namespace Go.Proofs.YtdhmjhoaegdfjaaGreat
open Go.RowKit Go.Sort
section
variable {P : Program} {Q : Exit → Act → World → Prop} {l : List Oper} {W w : World} {a : Act}
theorem rx_step {SL : List Sm} {i L k m mi : Nat} {o : Oper} (ho : l[i]? = some o) (hl : m ||| 2 ^ i = mi) (hSL : smAll l = SL) (hs : Region.noSelect l.toArray = true) (hL : waitsAll SL L l.length = true) (hm : m < 2 ^ l.length)
    (hcl : Clo .any l.toArray (arrOf l.length m)) (hr : i ∈ rdM m SL 0) (h : wpList P l.toArray (RxOp P Q W l SL L i k mi) [o] a w) :
    wpOp P l.toArray (NoPanic Q) i (fun a' w' => (L.testBit i = true ∨ ∃ p : Regrown, w' = grow (redrawn W p.d) p.os) ∧ wpAnyL P .any l.toArray (NoPanic Q) (fun w' => ∃ p : Regrown, w' = grow (redrawn W p.d) p.os) L k ((arrOf l.length m).setIfInBounds i true) a' w') a w := by
  subst hl
  have hi : i < l.length := (List.getElem?_eq_some_iff.1 ho).1
  exact rx_one' (by simpa using ho) (rxOp_on hSL hs hL hm hi (by rw [← arrOf_set _ _ _ hi]; exact clo_set hcl (by rw [ready_eq hm, hSL]; exact hr)) h)

theorem rx_three {SL : List Sm} (i j q : Nat) {o o' o'' : Oper} {L n k m mi mj mk : Nat} (hn : n = k + 1) (ho : l[i]? = some o) (ho' : l[j]? = some o') (ho'' : l[q]? = some o'') (hr : rdM m SL 0 = [i, j, q])
    (hl : m ||| 2 ^ i = mi) (hl' : m ||| 2 ^ j = mj) (hl'' : m ||| 2 ^ q = mk)
    (h : wpList P l.toArray (RxOp P Q W l SL L i k mi) [o] a w) (h' : wpList P l.toArray (RxOp P Q W l SL L j k mj) [o'] a w) (h'' : wpList P l.toArray (RxOp P Q W l SL L q k mk) [o''] a w) : Rx P Q W l SL L n m a w := by
  intro hSL hs hL hm hcl
  subst hn
  refine wpAnyL_all (rs := [i, j, q]) (by rw [ready_eq hm, hSL]; exact hr) (by simp) fun x hx => ?_
  have hx' : x = i ∨ x = j ∨ x = q := by simpa using hx
  rcases hx' with rfl | rfl | rfl
  · exact rx_step ho hl hSL hs hL hm hcl (by rw [hr]; exact hx) h
  · exact rx_step ho' hl' hSL hs hL hm hcl (by rw [hr]; exact hx) h'
  · exact rx_step ho'' hl'' hSL hs hL hm hcl (by rw [hr]; exact hx) h''

theorem rx_four {SL : List Sm} (i j q z : Nat) {o o' o'' o3 : Oper} {L n k m mi mj mk ml : Nat} (hn : n = k + 1) (ho : l[i]? = some o) (ho' : l[j]? = some o') (ho'' : l[q]? = some o'') (ho3 : l[z]? = some o3) (hr : rdM m SL 0 = [i, j, q, z])
    (hl : m ||| 2 ^ i = mi) (hl' : m ||| 2 ^ j = mj) (hl'' : m ||| 2 ^ q = mk) (hl3 : m ||| 2 ^ z = ml)
    (h : wpList P l.toArray (RxOp P Q W l SL L i k mi) [o] a w) (h' : wpList P l.toArray (RxOp P Q W l SL L j k mj) [o'] a w) (h'' : wpList P l.toArray (RxOp P Q W l SL L q k mk) [o''] a w) (h3 : wpList P l.toArray (RxOp P Q W l SL L z k ml) [o3] a w) : Rx P Q W l SL L n m a w := by
  intro hSL hs hL hm hcl
  subst hn
  refine wpAnyL_all (rs := [i, j, q, z]) (by rw [ready_eq hm, hSL]; exact hr) (by simp) fun x hx => ?_
  have hx' : x = i ∨ x = j ∨ x = q ∨ x = z := by simpa using hx
  rcases hx' with rfl | rfl | rfl | rfl
  · exact rx_step ho hl hSL hs hL hm hcl (by rw [hr]; exact hx) h
  · exact rx_step ho' hl' hSL hs hL hm hcl (by rw [hr]; exact hx) h'
  · exact rx_step ho'' hl'' hSL hs hL hm hcl (by rw [hr]; exact hx) h''
  · exact rx_step ho3 hl3 hSL hs hL hm hcl (by rw [hr]; exact hx) h3
/-- a variable that a region makes -/
theorem rx_gen {SL : List Sm} {L k m : Nat} {u0 u1 : Value} {T : TypeId} (hW : Ext W w)
    (h : ∀ w', Ext w w' → w'.cell? ⟨w.heap.size, 0, none⟩ = some u0 → w'.cell? ⟨w.heap.size, 1, none⟩ = some u1 → w'.frozen? ⟨w.heap.size, 0, none⟩ = false → w'.frozen? ⟨w.heap.size, 1, none⟩ = false → w.heap.size < w'.heap.size → W.heap.size ≤ w.heap.size →
      Rx P Q W l SL L k m a w') : Rx P Q W l SL L k m a (w.alloc (.cells #[u0, u1] T)) := by
  refine h _ ((Ext.refl w).alloc _) ?_ ?_ ?_ ?_ (by simp) hW.size
  · rw [cell_of_row _ w.heap.size 0 _ T (0, 0) (heap_alloc_new w _)]; rfl
  · rw [cell_of_row _ w.heap.size 1 _ T (0, 0) (heap_alloc_new w _)]; rfl
  · exact frozen_of_row _ w.heap.size 0 _ T (heap_alloc_new w _)
  · exact frozen_of_row _ w.heap.size 1 _ T (heap_alloc_new w _)
theorem rx_memo {SL : List Sm} {L n m : Nat} {T : Prop} (k : T → Rx P Q W l SL L n m a w) (p : T) : Rx P Q W l SL L n m a w := k p
/-- a place of two cells that has been made behind W -/
def Av (W w : World) (g : Nat) (u0 u1 : Value) : Prop := w.cell? ⟨g, 0, none⟩ = some u0 ∧ w.cell? ⟨g, 1, none⟩ = some u1 ∧ w.frozen? ⟨g, 0, none⟩ = false ∧ w.frozen? ⟨g, 1, none⟩ = false ∧ g < w.heap.size ∧ W.heap.size ≤ g
theorem Av.ext {W w w' : World} {g : Nat} {u0 u1 : Value} (h : Av W w g u0 u1) (hx : Ext w w') : Av W w' g u0 u1 := by
  obtain ⟨h1, h2, h3, h4, h5, h6⟩ := h
  exact ⟨hx.lit h1, hx.lit h2, (bfroz hx g 0 h5).trans h3, (bfroz hx g 1 h5).trans h4, Nat.lt_of_lt_of_le h5 hx.size, h6⟩
theorem rx_gen3 {SL : List Sm} {L k m : Nat} {u0 u1 : Value} {T : TypeId} (hW : Ext W w) {g : Nat} (hg : w.heap.size = g)
    (h : ∀ w', Ext w w' → Ext W w' → Av W w' g u0 u1 → Rx P Q W l SL L k m a w') : Rx P Q W l SL L k m a (w.alloc (.cells #[u0, u1] T)) := by
  subst hg
  refine h _ ((Ext.refl w).alloc _) (hW.alloc _) ⟨?_, ?_, ?_, ?_, by simp, hW.size⟩
  · rw [cell_of_row _ w.heap.size 0 _ T (0, 0) (heap_alloc_new w _)]; rfl
  · rw [cell_of_row _ w.heap.size 1 _ T (0, 0) (heap_alloc_new w _)]; rfl
  · exact frozen_of_row _ w.heap.size 0 _ T (heap_alloc_new w _)
  · exact frozen_of_row _ w.heap.size 1 _ T (heap_alloc_new w _)
end
end Go.Proofs.YtdhmjhoaegdfjaaGreat
