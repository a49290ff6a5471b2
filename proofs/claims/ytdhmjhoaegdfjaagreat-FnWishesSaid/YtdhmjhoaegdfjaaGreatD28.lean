import Derived.Test.YtdhmjhoaegdfjaaGreatD24
import Derived.Test.YtdhmjhoaegdfjaaGreatP9
namespace Go.Proofs.YtdhmjhoaegdfjaaGreat
open Go.RowKit Go.Sort Go.BigFrame

theorem infoBB : (Tryz.prog.info? 71).map (fun i => (i.zero, i.size, i.bytes)) = some (some (.slice none 0 0), 1, 24) := by kernel_rfl

/-- the rows' headers -/
def rws (rb : Nat → Nat) (n k : Nat) : List Value := (List.range k).map (fun i => Value.slice (some ⟨rb i, 0, none⟩) n n)
theorem rws_at (rb : Nat → Nat) (n : Nat) {k i : Nat} (h : i < k) : (rws rb n k)[i]? = some (.slice (some ⟨rb i, 0, none⟩) n n) := by simp [rws, h]
theorem rws_snoc (rb : Nat → Nat) (n k g : Nat) : rws rb n k ++ [.slice (some ⟨g, 0, none⟩) n n] = rws (fun i => if i = k then g else rb i) n (k + 1) := by
  unfold rws
  rw [List.range_succ, List.map_append]
  congr 1
  · refine List.map_congr_left fun i hi => ?_
    have := List.mem_range.1 hi
    show _ = Value.slice (some ⟨if i = k then g else rb i, 0, none⟩) n n
    rw [if_neg (by omega)]
  · simp
/-- v holds k rows of n bools each (M), of the call's own, in blocks that rise -/
structure OwM (w : World) (B0 B : Nat) (v : Value) (n k : Nat) (rb : Nat → Nat) (M : Nat → Nat → Bool) : Prop where
  hd : OwZ w B0 B 71 1 v k (rws rb n k)
  rw_ : ∀ i, i < k → OwB w B (.slice (some ⟨rb i, 0, none⟩) n n) (btab n (M i))
  up : ∀ i j, i < j → j < k → rb i < rb j
section
variable {w w' : World} {B0 B n k : Nat} {v : Value} {rb : Nat → Nat} {M : Nat → Nat → Bool}
theorem OwM.ext (h : OwM w B0 B v n k rb M) (hx : Ext w w') : OwM w' B0 B v n k rb M := ⟨h.hd.ext hx, fun i hi => (h.rw_ i hi).ext hx, h.up⟩
theorem OwM.ne (h : OwM w B0 B v n k rb M) {i j : Nat} (hi : i < k) (hj : j < k) (hij : i ≠ j) : rb i ≠ rb j := by
  rcases Nat.lt_or_gt_of_ne hij with h1 | h1
  · exact Nat.ne_of_lt (h.up i j h1 hj)
  · exact (Nat.ne_of_lt (h.up j i h1 hi)).symm
theorem OwM.own (h : OwM w B0 B v n k rb M) (hB : B0 ≤ B) : OwM w B0 B0 v n k rb M := ⟨.inl (h.hd.own hB), fun i hi => ow_more (h.rw_ i hi) hB, h.up⟩
theorem OwM.shape (h : OwM w B0 B v n k rb M) : ∃ A c, v = .slice A k c := by
  rcases h.hd with h1 | ⟨h0, _, _, a, h1⟩
  · obtain ⟨A, c, e, _⟩ := ow_shape h1
    exact ⟨A, c, e⟩
  · exact ⟨some a, 0, by rw [h1, h0]⟩
/-- row i and its places -/
theorem OwM.at_ (h : OwM w B0 B v n k rb M) {i : Nat} (hi : i < k) : ∃ g c, v = .slice (some ⟨g, 0, none⟩) k c ∧ w.cell? ⟨g, i, none⟩ = some (.slice (some ⟨rb i, 0, none⟩) n n) := by
  rcases h.hd with h1 | ⟨h0, _⟩
  · rcases h1.2 with ⟨rfl, h0⟩ | ⟨g, cap, cur, rfl, hb, hg, hnc, _⟩
    · omega
    · refine ⟨g, cap, rfl, ?_⟩
      rw [World.ownsRow.cellAt h1 i (by omega), rws_at rb n hi]
  · omega
theorem OwM.cel (h : OwM w B0 B v n k rb M) {i j : Nat} (hi : i < k) (hj : j < n) : w.cell? ⟨rb i, j, none⟩ = some (.bool (M i j)) ∧ w.frozen? ⟨rb i, j, none⟩ = false := (h.rw_ i hi).cel (btab_at _ hj)
/-- one place is set -/
theorem OwM.set_ (h : OwM w B0 B v n k rb M) {i j : Nat} (hi : i < k) : OwM (w.setCell ⟨rb i, j, none⟩ (.bool true)) B0 B v n k rb (fun a b => if a = i ∧ b = j then true else M a b) := by
  have hbt : BlkT w (rb i) 4 := own_blkT (h.rw_ i hi) (rb i) rfl
  have hgs : w.grownBy (w.setCell ⟨rb i, j, none⟩ (.bool true)) (some (rb i)) := gb_set (gb_refl _ _) j _
  refine ⟨?_, fun a ha => ?_, h.up⟩
  · exact h.hd.imp (fun h1 => own_kept h1 hgs fun q hq => ⟨4, by decide, by injection hq with hq; rw [← hq]; exact hbt⟩) (fun ⟨e1, e2, e3, e4⟩ => ⟨e1, own_kept e2 hgs fun q hq => ⟨4, by decide, by injection hq with hq; rw [← hq]; exact hbt⟩, e3, e4⟩)
  · by_cases hai : a = i
    · subst hai
      have h1 := (h.rw_ a ha).set_ (btab_len _ _).symm j true
      rw [btab_set] at h1
      have e : btab n (fun d => if d = j then true else M a d) = btab n (fun b => if a = a ∧ b = j then true else M a b) := btab_congr fun d _ => by simp
      rw [e] at h1
      exact h1
    · have h1 := (h.rw_ a ha).gb hgs (fun g hg e => by
        simp [Value.ownBlock] at hg
        injection e with e
        exact h.ne ha hi hai (by omega))
      have e : btab n (M a) = btab n (fun b => if a = i ∧ b = j then true else M a b) := btab_congr fun d _ => by simp [hai]
      rw [e] at h1
      exact h1
end
theorem OwM.zero {w : World} {B0 B n : Nat} (g : Nat) (rb : Nat → Nat) (M : Nat → Nat → Bool) (hB : B0 ≤ g) (hg : g = w.heap.size) : OwM (w.alloc (.cells #[] 71)) B0 B (.slice (some ⟨g, 0, none⟩) 0 0) n 0 rb M :=
  ⟨OwZ.zero g hB hg, fun i hi => by omega, fun i j _ hj => by omega⟩
theorem OwM.up0 {w : World} {B0 B B' n : Nat} {v : Value} {rb : Nat → Nat} {M : Nat → Nat → Bool} (h : OwM w B0 B v n 0 rb M) (hv : ∃ a, v = .slice (some a) 0 0) (hB : B0 ≤ B) : OwM w B0 B' v n 0 rb M :=
  ⟨h.hd.up rfl hv hB, fun i hi => by omega, fun i j _ hj => by omega⟩
/-- append of a new row of bools that lies in block g1 (newer than all) -/
theorem az_brow {ops : Array Oper} {rest : List Oper} {o : Oper} {a : Act} {Q : Exit → Act → World → Prop} {w : World} (s x : Operand) (hgd : o.guard = none)
    (ho : o.op = .call { callee := .builtin .append, args := #[s, x], argTypes := #[59, 59] })
    {B0 B : Nat} {v : Value} {n k : Nat} {rb : Nat → Nat} {M : Nat → Nat → Bool} (hs : a.eval s = v) (hown : OwM w B0 B v n k rb M) {g g1 : Nat} (hx : a.eval x = .slice (some ⟨g, 0, none⟩) 1 1)
    (hc : w.cell? ⟨g, 0, none⟩ = some (.slice (some ⟨g1, 0, none⟩) n n)) (hr : OwB w B (.slice (some ⟨g1, 0, none⟩) n n) (btab n (M k))) (hnew : ∀ i, i < k → rb i < g1)
    (hl : k ≤ 4000000) (hB : B ≤ w.heap.size)
    (h : ∀ v' w', OwM w' B0 B v' n (k + 1) (fun i => if i = k then g1 else rb i) M → (∀ W, Ext W w → W.heap.size ≤ B → Ext W w') → wpList Tryz.prog ops Q rest (a.put o.dst v') w') : wpList Tryz.prog ops Q (o :: rest) a w := by
  refine az_gen2 59 71 (.slice none 0 0) 1 24 Tryz.underlying59 infoBB rfl (by omega) (by omega) s x hgd ho hs hown.hd (news := [.slice (some ⟨g1, 0, none⟩) n n]) hx rfl ?_ ?_ hl hB ?_
  · intro j u' hj
    match j, hj with
    | 0, hj => simp at hj; subst hj; exact hc
  · intro u' hu'; simp at hu'; subst hu'; rfl
  · intro v' w' r h3 h4 h5 h6
    have keep : ∀ u2 bs, OwB w B u2 bs → OwB w' B u2 bs := fun u2 bs h' => own_kept h' h5 (fun q hq => by
      obtain ⟨hv, _, hrow⟩ := h6 q hq
      exact ⟨71, by decide, own_blkT hrow q hv⟩)
    refine h v' w' ⟨.inl ?_, fun i hi => ?_, fun i j hij hj => ?_⟩ h4
    · rw [rws_snoc] at h3
      exact h3
    · show OwB w' B (.slice (some ⟨if i = k then g1 else rb i, 0, none⟩) n n) (btab n (M i))
      by_cases hik : i = k
      · rw [if_pos hik, hik]; exact keep _ _ hr
      · rw [if_neg hik]; exact keep _ _ (hown.rw_ i (by omega))
    · show (if i = k then g1 else rb i) < (if j = k then g1 else rb j)
      rw [if_neg (by omega)]
      by_cases hjk : j = k
      · rw [if_pos hjk]; exact hnew i (by omega)
      · rw [if_neg hjk]; exact hown.up i j hij (by omega)
end Go.Proofs.YtdhmjhoaegdfjaaGreat
