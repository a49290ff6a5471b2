import Derived.Test.YtdcghlklikbfcaaQ2
import Derived.Test.YtdcghlklikbfcaaD6
import Derived.Test.YtdcghlklikbfcaaP8
import Derived.Test.YtdcghlklikbfcaaR2
import Derived.Test.YtdcghlklikbfcaaG9
namespace Go.Proofs.Ytdcghlklikbfcaa.Dt
open Go.RowKit Go.Sort Go.BigFrame

def BlkT (w : World) (q : Nat) (T : TypeId) : Prop := ∃ cur fr, w.heap[q]? = some (.cells cur T fr)
theorem own_blkT {w : World} {B : Nat} {e : TypeId} {sz n : Nat} {v : Value} {cs : List Value} (h : w.ownsRow B e sz v n cs) : ∀ q, v.ownBlock = some q → BlkT w q e := by
  intro q hq
  rcases h.2 with ⟨rfl, _⟩ | ⟨g, cap, cur, rfl, _, hg, _⟩
  · simp [Value.ownBlock] at hq
  · simp [Value.ownBlock] at hq
    subst hq
    exact ⟨_, _, hg⟩
theorem own_kept {w w' : World} {B : Nat} {e : TypeId} {sz n : Nat} {v : Value} {cs : List Value} {r : Option Nat} (h : w.ownsRow B e sz v n cs) (k : w.grownBy w' r) (hr : ∀ q, r = some q → ∃ T, T ≠ e ∧ BlkT w q T) : w'.ownsRow B e sz v n cs :=
  gb_own h k (fun g hv hr' => by
    obtain ⟨T, hT, c, f, hb⟩ := hr g hr'
    obtain ⟨c', f', hb'⟩ := own_blkT h g hv
    rw [hb] at hb'
    injection hb' with hb'
    injection hb' with _ hb'
    exact hT hb')
/-- the rows' headers -/
def rws (rb : Nat → Nat) (n k : Nat) : List Value := (List.range k).map (fun i => Value.slice (some ⟨rb i, 0, none⟩) n n)
theorem rws_len (rb : Nat → Nat) (n k : Nat) : (rws rb n k).length = k := by simp [rws]
theorem rws_at (rb : Nat → Nat) (n : Nat) {k i : Nat} (h : i < k) : (rws rb n k)[i]? = some (.slice (some ⟨rb i, 0, none⟩) n n) := by simp [rws, h]
theorem rws_snoc (rb : Nat → Nat) (n k g : Nat) : rws rb n k ++ [.slice (some ⟨g, 0, none⟩) n n] = rws (fun i => if i = k then g else rb i) n (k + 1) := by
  unfold rws
  rw [List.range_succ, List.map_append]
  congr 1
  · refine List.map_congr_left fun i hi => ?_
    have := List.mem_range.1 hi
    show _ = Value.slice (some ⟨if i = k then g else rb i, 0, none⟩) n n
    rw [if_neg (by omega)]
  · simp
/-- v holds N headers, the first k of rows of n numbers each (M), of the call's own, in blocks that rise -/
structure Mx (w : World) (B0 B : Nat) (v : Value) (N n k : Nat) (rb : Nat → Nat) (M : Nat → Nat → Int) : Prop where
  hd : OwZ w B0 B 41 1 v N (rws rb n k ++ List.replicate (N - k) (.slice none 0 0))
  rw_ : ∀ i, i < k → OwI w B (.slice (some ⟨rb i, 0, none⟩) n n) (tab n (M i))
  up : ∀ i j, i < j → j < k → rb i < rb j
section
variable {w w' : World} {B0 B N n k : Nat} {v : Value} {rb : Nat → Nat} {M : Nat → Nat → Int}
theorem Mx.ext (h : Mx w B0 B v N n k rb M) (hx : Ext w w') : Mx w' B0 B v N n k rb M := ⟨h.hd.ext hx, fun i hi => (h.rw_ i hi).ext hx, h.up⟩
theorem Mx.ne (h : Mx w B0 B v N n k rb M) {i j : Nat} (hi : i < k) (hj : j < k) (hij : i ≠ j) : rb i ≠ rb j := by
  rcases Nat.lt_or_gt_of_ne hij with h1 | h1
  · exact Nat.ne_of_lt (h.up i j h1 hj)
  · exact (Nat.ne_of_lt (h.up j i h1 hi)).symm
theorem Mx.shape (h : Mx w B0 B v N n k rb M) (hN : 0 < N) : ∃ g c, v = .slice (some ⟨g, 0, none⟩) N c ∧ N ≤ c ∧ B ≤ g ∧ g < w.heap.size := by
  rcases h.hd with h1 | ⟨h0, _⟩
  · rcases h1.2 with ⟨rfl, h0⟩ | ⟨g, cap, cur, rfl, hb, hg, hnc, _⟩
    · omega
    · exact ⟨g, cap, rfl, hnc, hb, (World.ownsRow.lt h1 g rfl).2⟩
  · omega
/-- header i -/
theorem Mx.at_ {g c : Nat} (h : Mx w B0 B (.slice (some ⟨g, 0, none⟩) N c) N n k rb M) {i : Nat} (hi : i < k) (hk : k ≤ N) : w.cell? ⟨g, i, none⟩ = some (.slice (some ⟨rb i, 0, none⟩) n n) := by
  rcases h.hd with h1 | ⟨h0, _⟩
  · rw [World.ownsRow.cellAt h1 i (by omega), List.getElem?_append_left (by rw [rws_len]; exact hi), rws_at rb n hi]
  · omega
theorem Mx.hfz {g c : Nat} (h : Mx w B0 B (.slice (some ⟨g, 0, none⟩) N c) N n k rb M) (hN : 0 < N) (i : Nat) : w.frozen? ⟨g, i, none⟩ = false := by
  rcases h.hd with h1 | ⟨h0, _⟩
  · exact World.ownsRow.frozenAt h1 i
  · omega
theorem Mx.hnil {g c : Nat} (h : Mx w B0 B (.slice (some ⟨g, 0, none⟩) N c) N n k rb M) (hk : k < N) : w.cell? ⟨g, k, none⟩ = some (.slice none 0 0) := by
  rcases h.hd with h1 | ⟨h0, _⟩
  · rw [World.ownsRow.cellAt h1 k (by omega), List.getElem?_append_right (by rw [rws_len]; exact Nat.le_refl _), rws_len, Nat.sub_self, List.getElem?_replicate, if_pos (by omega)]
  · omega
/-- the number at row i, column j -/
theorem Mx.cel (h : Mx w B0 B v N n k rb M) {i j : Nat} (hi : i < k) (hj : j < n) : w.cell? ⟨rb i, j, none⟩ = some (.int .i64 (M i j)) ∧ w.frozen? ⟨rb i, j, none⟩ = false := by
  have := (h.rw_ i hi).cel (j := j) (by rw [tab_len]; exact hj)
  rw [tab_gi _ hj] at this
  exact this
theorem Mx.congr {M' : Nat → Nat → Int} (h : Mx w B0 B v N n k rb M) (e : ∀ i j, i < k → j < n → M i j = M' i j) : Mx w B0 B v N n k rb M' :=
  ⟨h.hd, fun i hi => by rw [← tab_congr (g := M i) (g' := M' i) (fun j hj => e i j hi hj)]; exact h.rw_ i hi, h.up⟩
/-- one number is set -/
theorem Mx.set_ (h : Mx w B0 B v N n k rb M) {i j : Nat} (hi : i < k) (y : Int) : Mx (w.setCell ⟨rb i, j, none⟩ (.int .i64 y)) B0 B v N n k rb (fun a b => if a = i ∧ b = j then y else M a b) := by
  have hbt : BlkT w (rb i) 3 := own_blkT (h.rw_ i hi) (rb i) rfl
  have hgs : w.grownBy (w.setCell ⟨rb i, j, none⟩ (.int .i64 y)) (some (rb i)) := gb_set (gb_refl _ _) j _
  refine ⟨?_, fun a ha => ?_, h.up⟩
  · exact h.hd.imp (fun h1 => own_kept h1 hgs fun q hq => ⟨3, by decide, by injection hq with hq; rw [← hq]; exact hbt⟩) (fun ⟨e1, e2, e3, e4⟩ => ⟨e1, own_kept e2 hgs fun q hq => ⟨3, by decide, by injection hq with hq; rw [← hq]; exact hbt⟩, e3, e4⟩)
  · by_cases hai : a = i
    · subst hai
      have h1 := (h.rw_ a ha).set_ (tab_len _ _).symm j y
      rw [tab_set] at h1
      have e : tab n (fun d => if d = j then y else M a d) = tab n (fun b => if a = a ∧ b = j then y else M a b) := tab_congr fun d _ => by simp
      rw [e] at h1
      exact h1
    · have h1 := (h.rw_ a ha).gb hgs (fun g hg e => by
        simp [Value.ownBlock] at hg
        injection e with e
        exact h.ne ha hi hai (by omega))
      have e : tab n (M a) = tab n (fun b => if a = i ∧ b = j then y else M a b) := tab_congr fun d _ => by simp [hai]
      rw [e] at h1
      exact h1
end
/-- the program's way: header k is set -/
theorem Mx.hset {w : World} {B0 B g c N n k g1 : Nat} {rb : Nat → Nat} {M : Nat → Nat → Int} (h : Mx w B0 B (.slice (some ⟨g, 0, none⟩) N c) N n k rb M) (hk : k < N) (hr : OwI w B (.slice (some ⟨g1, 0, none⟩) n n) (tab n (M k))) (hnew : ∀ i, i < k → rb i < g1) :
    Mx (w.setCell ⟨g, k, none⟩ (.slice (some ⟨g1, 0, none⟩) n n)) B0 B (.slice (some ⟨g, 0, none⟩) N c) N n (k + 1) (fun i => if i = k then g1 else rb i) M := by
  have hgs : w.grownBy (w.setCell ⟨g, k, none⟩ (.slice (some ⟨g1, 0, none⟩) n n)) (some g) := gb_set (gb_refl _ _) k _
  rcases h.hd with h1 | ⟨h0, _⟩
  · have hbt : BlkT w g 41 := own_blkT h1 g rfl
    have keep : ∀ u xs, OwI w B u xs → OwI (w.setCell ⟨g, k, none⟩ (.slice (some ⟨g1, 0, none⟩) n n)) B u xs := fun u xs h' => own_kept h' hgs fun q hq => ⟨41, by decide, by injection hq with hq; rw [← hq]; exact hbt⟩
    refine ⟨.inl ?_, fun i hi => ?_, fun i j hij hj => ?_⟩
    · have h2 := (World.ownsRow.stored h1 k (.slice (some ⟨g1, 0, none⟩) n n)).1
      have e : (rws rb n k ++ List.replicate (N - k) (Value.slice none 0 0)).set k (.slice (some ⟨g1, 0, none⟩) n n) = rws (fun i => if i = k then g1 else rb i) n (k + 1) ++ List.replicate (N - (k + 1)) (Value.slice none 0 0) := by
        rw [← rws_snoc, List.set_append_right _ _ (by rw [rws_len]; exact Nat.le_refl _), rws_len, Nat.sub_self, show N - k = (N - (k + 1)) + 1 by omega, List.replicate_succ, List.set_cons_zero, List.append_assoc]
        rfl
      rw [e] at h2
      exact h2
    · show OwI _ B (.slice (some ⟨if i = k then g1 else rb i, 0, none⟩) n n) (tab n (M i))
      by_cases hik : i = k
      · rw [if_pos hik, hik]; exact keep _ _ hr
      · rw [if_neg hik]; exact keep _ _ (h.rw_ i (by omega))
    · show (if i = k then g1 else rb i) < (if j = k then g1 else rb j)
      rw [if_neg (by omega)]
      by_cases hjk : j = k
      · rw [if_pos hjk]; exact hnew i (by omega)
      · rw [if_neg hjk]; exact h.up i j hij (by omega)
  · omega
theorem Mx.zero {w : World} {B0 B n : Nat} (g : Nat) (rb : Nat → Nat) (M : Nat → Nat → Int) (hB : B0 ≤ g) (hg : g = w.heap.size) : Mx (w.alloc (.cells #[] 41)) B0 B (.slice (some ⟨g, 0, none⟩) 0 0) 0 n 0 rb M :=
  ⟨OwZ.zero g hB hg, fun i hi => by omega, fun i j _ hj => by omega⟩
/-- the reference's way: append of a new row that lies in block g1 (newer than all) -/
theorem az_irow {ops : Array Oper} {rest : List Oper} {o : Oper} {a : Act} {Q : Exit → Act → World → Prop} {w : World} (s x : Operand) (hgd : o.guard = none)
    (ho : o.op = .call { callee := .builtin .append, args := #[s, x], argTypes := #[38, 38] })
    {B0 B : Nat} {v : Value} {n k : Nat} {rb : Nat → Nat} {M : Nat → Nat → Int} (hs : a.eval s = v) (hown : Mx w B0 B v k n k rb M) {g g1 : Nat} (hx : a.eval x = .slice (some ⟨g, 0, none⟩) 1 1)
    (hc : w.cell? ⟨g, 0, none⟩ = some (.slice (some ⟨g1, 0, none⟩) n n)) (hr : OwI w B (.slice (some ⟨g1, 0, none⟩) n n) (tab n (M k))) (hnew : ∀ i, i < k → rb i < g1)
    (hl : k ≤ 4000000) (hB : B ≤ w.heap.size)
    (h : ∀ v' w', Mx w' B0 B v' (k + 1) n (k + 1) (fun i => if i = k then g1 else rb i) M → (∀ W, Ext W w → W.heap.size ≤ B → Ext W w') → wpList Try.prog ops Q rest (a.put o.dst v') w') : wpList Try.prog ops Q (o :: rest) a w := by
  have hh := hown.hd
  rw [Nat.sub_self, List.replicate_zero, List.append_nil] at hh
  refine az_gen2 38 41 (.slice none 0 0) 1 24 Try.underlying38 infoR rfl (by omega) (by omega) s x hgd ho hs hh (news := [.slice (some ⟨g1, 0, none⟩) n n]) hx rfl ?_ ?_ hl hB ?_
  · intro j u' hj
    match j, hj with
    | 0, hj => simp at hj; subst hj; exact hc
  · intro u' hu'; simp at hu'; subst hu'; rfl
  · intro v' w' r h3 h4 h5 h6
    have keep : ∀ u2 bs, OwI w B u2 bs → OwI w' B u2 bs := fun u2 bs h' => own_kept h' h5 (fun q hq => by
      obtain ⟨hv, _, hrow⟩ := h6 q hq
      exact ⟨41, by decide, own_blkT hrow q hv⟩)
    refine h v' w' ⟨.inl ?_, fun i hi => ?_, fun i j hij hj => ?_⟩ h4
    · rw [rws_snoc] at h3
      rw [Nat.sub_self, List.replicate_zero, List.append_nil]
      exact h3
    · show OwI w' B (.slice (some ⟨if i = k then g1 else rb i, 0, none⟩) n n) (tab n (M i))
      by_cases hik : i = k
      · rw [if_pos hik, hik]; exact keep _ _ hr
      · rw [if_neg hik]; exact keep _ _ (hown.rw_ i (by omega))
    · show (if i = k then g1 else rb i) < (if j = k then g1 else rb j)
      rw [if_neg (by omega)]
      by_cases hjk : j = k
      · rw [if_pos hjk]; exact hnew i (by omega)
      · rw [if_neg hjk]; exact hown.up i j hij (by omega)
end Go.Proofs.Ytdcghlklikbfcaa.Dt
