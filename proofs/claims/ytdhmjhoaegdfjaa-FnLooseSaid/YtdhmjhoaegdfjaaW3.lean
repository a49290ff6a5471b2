import Derived.Test.YtdhmjhoaegdfjaaW1
namespace Go.Proofs.Ytdhmjhoaegdfjaa
open Go.RowKit Go.Sort Go.BigFrame
/-! Plain words: a window from which a node is taken stays right. -/

theorem wnL_src (ls : List P2) (k : Int) : ∀ m, ∃ f : Nat → Nat, (∀ i, i < (wnL ls k m).length → f i < m ∧ (gp ls (f i : Nat)).1 ≠ k ∧ (gp ls (f i : Nat)).2 ≠ k ∧ gp (wnL ls k m) (i : Nat) = (dnI k (gp ls (f i : Nat)).1, dnI k (gp ls (f i : Nat)).2)) ∧ ∀ i j, j < i → i < (wnL ls k m).length → f j < f i
  | 0 => ⟨id, fun i hi => absurd hi (by simp [wnL]), fun i j _ hi => absurd hi (by simp [wnL])⟩
  | m + 1 => by
    obtain ⟨f, h1, h2⟩ := wnL_src ls k m
    unfold wnL
    split
    · rename_i hc
      refine ⟨fun i => if i < (wnL ls k m).length then f i else m, fun i hi => ?_, fun i j hj hi => ?_⟩
      · dsimp only
        by_cases hlt : i < (wnL ls k m).length
        · rw [if_pos hlt]
          obtain ⟨a1, a2, a3, a4⟩ := h1 i hlt
          exact ⟨by omega, a2, a3, by rw [gp_app hlt]; exact a4⟩
        · rw [if_neg hlt]
          have hie : i = (wnL ls k m).length := by simp at hi; omega
          refine ⟨by omega, hc.1, hc.2, ?_⟩
          subst hie
          unfold gp
          simp
      · dsimp only
        have hi' : i < (wnL ls k m).length + 1 := by simpa using hi
        by_cases hlt : i < (wnL ls k m).length
        · rw [if_pos hlt, if_pos (by omega)]
          exact h2 i j hj hlt
        · rw [if_neg hlt, if_pos (by omega)]
          exact (h1 j (by omega)).1
    · exact ⟨f, fun i hi => by obtain ⟨a1, a2⟩ := h1 i hi; exact ⟨by omega, a2⟩, h2⟩

/-- the number that a node had -/
def upN (k i : Nat) : Nat := if i < k then i else i + 1
theorem gp_cut {ns : List P2} {k i : Nat} (hk : k < ns.length) (hi : i + 1 < ns.length) : gp (wnN ns (k : Int) ns.length) (i : Nat) = gp ns (upN k i : Nat) := by
  rw [wnN_all hk]
  unfold upN
  split
  · rename_i h
    rw [gp_nat _ _ (by simp; omega), gp_nat _ _ (by omega), List.getElem_append_left (by simp; omega), List.getElem_take]
  · rename_i h
    rw [gp_nat _ _ (by simp; omega), gp_nat _ _ (by omega), List.getElem_append_right (by simp; omega), List.getElem_drop]
    congr 1
    simp
    omega
theorem wnN_length {ns : List P2} {k : Nat} (hk : k < ns.length) : (wnN ns (k : Int) ns.length).length + 1 = ns.length := by
  rw [wnN_all hk]
  simp
  omega
theorem lok_nat {ns : List P2} {l : P2} (h : lok ns l = true) : ∃ a b : Nat, l = ((a : Int), (b : Int)) ∧ a < b ∧ b < ns.length := by
  simp only [lok, Bool.and_eq_true, decide_eq_true_eq] at h
  obtain ⟨⟨⟨⟨⟨h1, h2⟩, h3⟩, _⟩, _⟩, _⟩ := h
  exact ⟨l.1.toNat, l.2.toNat, by ext <;> simp <;> omega, by omega, by omega⟩
theorem dn_nat {k a : Nat} (h : (a : Int) ≠ k) : ∃ a' : Nat, dnI (k : Int) (a : Int) = a' ∧ upN k a' = a ∧ (a' = a ∨ a' + 1 = a) ∧ (k < a → a' + 1 = a) := by
  unfold dnI upN
  by_cases hk : (k : Int) < a
  · rw [if_pos hk]
    refine ⟨a - 1, by omega, ?_, .inr (by omega), fun _ => by omega⟩
    rw [if_neg (by omega)]
    omega
  · rw [if_neg hk]
    refine ⟨a, rfl, ?_, .inl rfl, fun _ => by omega⟩
    rw [if_pos (by omega)]
theorem lok_cut {ns : List P2} {k : Nat} (hk : k < ns.length) {l : P2} (h : lok ns l = true) (h1 : l.1 ≠ (k : Int)) (h2 : l.2 ≠ (k : Int)) :
    lok (wnN ns (k : Int) ns.length) (dnI k l.1, dnI k l.2) = true ∧ gp (wnN ns (k : Int) ns.length) (dnI k l.1) = gp ns l.1 ∧ gp (wnN ns (k : Int) ns.length) (dnI k l.2) = gp ns l.2 := by
  obtain ⟨a, b, rfl, hab, hb⟩ := lok_nat h
  dsimp only at h1 h2 ⊢
  obtain ⟨a', ea, ua, oa, ga⟩ := dn_nat h1
  obtain ⟨b', eb, ub, ob, gb⟩ := dn_nat h2
  have hlen := wnN_length hk
  have hab' : a' < b' := by
    unfold upN at ua ub
    split at ua <;> split at ub <;> omega
  have hbn : b' + 1 < ns.length := by
    unfold upN at ub
    split at ub <;> omega
  rw [ea, eb]
  have e1 : gp (wnN ns (k : Int) ns.length) (a' : Nat) = gp ns (a : Nat) := by rw [gp_cut hk (by omega), ua]
  have e2 : gp (wnN ns (k : Int) ns.length) (b' : Nat) = gp ns (b : Nat) := by rw [gp_cut hk hbn, ub]
  refine ⟨?_, e1, e2⟩
  simp only [lok, Bool.and_eq_true, decide_eq_true_eq] at h ⊢
  rw [e1, e2]
  exact ⟨⟨⟨⟨⟨by omega, by omega⟩, by omega⟩, h.1.1.2⟩, h.1.2⟩, h.2⟩
theorem dox_cut {ns : List P2} {k : Nat} (hk : k < ns.length) {l m : P2} (h : lok ns l = true) (h' : lok ns m = true) (h1 : l.1 ≠ (k : Int)) (h2 : l.2 ≠ (k : Int)) (h3 : m.1 ≠ (k : Int)) (h4 : m.2 ≠ (k : Int)) :
    dox (wnN ns (k : Int) ns.length) (dnI k l.1, dnI k l.2) (dnI k m.1, dnI k m.2) = dox ns l m := by
  obtain ⟨a1, a2, a3⟩ := lok_cut hk h h1 h2
  obtain ⟨b1, b2, b3⟩ := lok_cut hk h' h3 h4
  unfold dox
  rw [a1, b1, h, h', a2, a3, b2, b3]
theorem wok_cut {ns ls : List P2} {k : Nat} (h : WOk ns ls) (hk : k < ns.length) (h2 : 2 ≤ ns.length) : WOk (wnN ns (k : Int) ns.length) (wnL ls (k : Int) ls.length) := by
  have hlen := wnN_length hk
  have hll := wnL_len ls (k : Int) ls.length
  obtain ⟨f, f1, f2⟩ := wnL_src ls (k : Int) ls.length
  have hhi := h.hi
  have hle := h.le
  refine ⟨by omega, by omega, by omega, fun i hi => ?_, fun i hi j hj => ?_, fun i hi => ?_⟩
  · rw [gp_cut hk (by omega)]
    exact h.ok _ (by unfold upN; split <;> omega)
  · rw [gp_cut hk (by omega), gp_cut hk (by omega)]
    exact h.ne _ (by unfold upN; split <;> omega) _ (by unfold upN; split <;> split <;> omega)
  · obtain ⟨a1, a2, a3, a4⟩ := f1 i hi
    obtain ⟨b1, b2, b3⟩ := h.ld (f i) a1
    obtain ⟨c1, c2, c3⟩ := lok_cut hk b1 a2 a3
    refine ⟨by rw [a4]; exact c1, fun j hj => ?_, fun q hq n1 n2 => ?_⟩
    · obtain ⟨d1, d2, d3, d4⟩ := f1 j (by omega)
      rw [a4, d4, dox_cut hk b1 (h.ld (f j) d1).1 a2 a3 d2 d3]
      exact b2 (f j) (f2 i j hj hi)
    · rw [a4] at n1 n2 ⊢
      rw [gp_cut hk (by omega)]
      unfold onl
      rw [c1, c2, c3]
      have hb := b3 (upN k q) (by unfold upN; split <;> omega) (fun e => n1 (by dsimp only; rw [← e]; unfold upN dnI; split <;> split <;> omega)) (fun e => n2 (by dsimp only; rw [← e]; unfold upN dnI; split <;> split <;> omega))
      unfold onl at hb
      rw [b1] at hb
      exact hb
theorem dnOk_yes {ns ls : List P2} {k : Nat} (h : WOk ns ls) (hk : k < ns.length) (h2 : 2 ≤ ns.length) : vDropNode ns ls (k : Int) = ((wnN ns (k : Int) ns.length, wnL ls (k : Int) ls.length), true) := by
  unfold vDropNode dnOk hasN
  rw [wok_iff.2 h, wok_iff.2 (wok_cut h hk h2), show wi (k : Int) 0 (ns.length - 1) = true from wi_iffV.2 ⟨by omega, by omega⟩]
  rfl

/-- the ends are taken away, one by one -/
def prn : Nat → List P2 → List P2 → List P2 × List P2
  | 0, ns, ls => (ns, ls)
  | f + 1, ns, ls => if ns.length ≤ 2 then (ns, ls) else if (vEndNodes ns ls).length = 0 then (ns, ls) else prn f (wnN ns (gi (vEndNodes ns ls) (0 : Nat)) ns.length) (wnL ls (gi (vEndNodes ns ls) (0 : Nat)) ls.length)
theorem prn_len : ∀ (f : Nat) (ns ls : List P2), (prn f ns ls).1.length ≤ ns.length ∧ (prn f ns ls).2.length ≤ ls.length
  | 0, _, _ => ⟨Nat.le_refl _, Nat.le_refl _⟩
  | f + 1, ns, ls => by
    unfold prn
    split
    · exact ⟨Nat.le_refl _, Nat.le_refl _⟩
    · split
      · exact ⟨Nat.le_refl _, Nat.le_refl _⟩
      · have ih := prn_len f (wnN ns (gi (vEndNodes ns ls) (0 : Nat)) ns.length) (wnL ls (gi (vEndNodes ns ls) (0 : Nat)) ls.length)
        have h1 := wnN_len ns (gi (vEndNodes ns ls) (0 : Nat)) ns.length
        have h2 := wnL_len ls (gi (vEndNodes ns ls) (0 : Nat)) ls.length
        omega
theorem flt_lt {p : Nat → Bool} {n : Nat} {x : Int} (h : x ∈ flt p n) : ∃ i : Nat, x = i ∧ i < n := by
  unfold flt at h
  obtain ⟨i, hi, rfl⟩ := List.mem_map.1 h
  exact ⟨i, rfl, List.mem_range.1 (List.mem_filter.1 hi).1⟩
theorem end_lt {ns ls : List P2} (h : 0 < (vEndNodes ns ls).length) : ∃ k : Nat, gi (vEndNodes ns ls) (0 : Nat) = k ∧ k < ns.length := by
  have hm : gi (vEndNodes ns ls) (0 : Nat) ∈ vEndNodes ns ls := by rw [gi_nat _ _ h]; exact List.getElem_mem h
  have key : ∀ x ∈ vEndNodes ns ls, ∃ k : Nat, x = k ∧ k < ns.length := fun x hx => by
    unfold vEndNodes at hx
    split at hx
    · exact flt_lt hx
    · cases hx
  exact key _ hm
def vPruneEnds (ns ls : List P2) : (List P2 × List P2) × Bool := if whole ns ls = true then (prn ns.length ns ls, true) else ((ns, ls), false)
theorem vPruneEnds_len (ns ls : List P2) : (vPruneEnds ns ls).1.1.length ≤ ns.length + 1 ∧ (vPruneEnds ns ls).1.2.length ≤ ls.length + 1 := by
  unfold vPruneEnds
  have := prn_len ns.length ns ls
  split
  · exact ⟨by dsimp only; omega, by dsimp only; omega⟩
  · exact ⟨by simp, by simp⟩
end Go.Proofs.Ytdhmjhoaegdfjaa
