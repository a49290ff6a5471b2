import Derived.Test.YtfhemddonahjgaaW3
namespace Go.Proofs.Ytfhemddonahjgaa
open Go.RowKit Go.Sort Go.BigFrame
/-! Plain words: two leads in a row are made one. -/

def dn2 (k : Int) (p : P2) : P2 := (dnI k p.1, dnI k p.2)
/-- the lead that takes the place of both -/
def jPt (ns ls : List P2) (k : Int) : P2 := (min (oend (gp ls (gi (leadsAt ns ls k) (0 : Nat))) k) (oend (gp ls (gi (leadsAt ns ls k) (1 : Nat))) k), max (oend (gp ls (gi (leadsAt ns ls k) (0 : Nat))) k) (oend (gp ls (gi (leadsAt ns ls k) (1 : Nat))) k))
def jM (ns ls : List P2) (k : Int) : List P2 := wnN (ls.set (gi (leadsAt ns ls k) (0 : Nat)).toNat (jPt ns ls k)) (gi (leadsAt ns ls k) (1 : Nat)) ls.length
def jL (ns ls : List P2) (k : Int) : List P2 := (jM ns ls k).map (dn2 k)
def jlOk (ns ls : List P2) (k : Int) : Bool := straight ns ls k && wok (wnN ns k ns.length) (jL ns ls k)
def vJoinLeads (ns ls : List P2) (k : Int) : (List P2 × List P2) × Bool := if jlOk ns ls k = true then ((wnN ns k ns.length, jL ns ls k), true) else ((ns, ls), false)
theorem vJoinLeads_len (ns ls : List P2) (k : Int) : (vJoinLeads ns ls k).1.1.length ≤ ns.length + 1 ∧ (vJoinLeads ns ls k).1.2.length ≤ ls.length + 1 := by
  unfold vJoinLeads
  have h1 := wnN_len ns k ns.length
  have h2 : (jL ns ls k).length ≤ ls.length := by
    unfold jL jM
    rw [List.length_map]
    exact wnN_len _ _ _
  split
  · exact ⟨by dsimp only; omega, by dsimp only; omega⟩
  · exact ⟨by simp, by simp⟩
theorem lat_two {ls : List P2} {k : Int} {n : Nat} (h : (lat ls k n).length = 2) : ∃ x y : Nat, lat ls k n = [(x : Int), (y : Int)] ∧ x < y ∧ y < n ∧ atL (gp ls (x : Nat)) k = true ∧ atL (gp ls (y : Nat)) k = true ∧ ∀ j, j < n → j ≠ x → j ≠ y → atL (gp ls (j : Nat)) k = false := by
  unfold lat at h ⊢
  rw [List.length_map] at h
  have hp : ((List.range n).filter (fun i => atL (gp ls (i : Nat)) k)).Pairwise (· < ·) := List.Pairwise.filter _ List.pairwise_lt_range
  have hm : ∀ j, j ∈ (List.range n).filter (fun i => atL (gp ls (i : Nat)) k) ↔ j < n ∧ atL (gp ls (j : Nat)) k = true := fun j => by rw [List.mem_filter, List.mem_range]
  generalize (List.range n).filter (fun i => atL (gp ls (i : Nat)) k) = F at *
  match F, h with
  | [x, y], _ =>
    have hx := (hm x).1 (by simp)
    have hy := (hm y).1 (by simp)
    refine ⟨x, y, rfl, by simpa using hp, hy.1, hx.2, hy.2, fun j hj n1 n2 => ?_⟩
    rw [← Bool.not_eq_true]
    intro e
    have := (hm j).2 ⟨hj, e⟩
    simp at this
    omega
theorem oend_ne {ns ls : List P2} {k i : Nat} (hW : WOk ns ls) (hi : i < ls.length) {a : Nat} (h : oend (gp ls (i : Nat)) (k : Int) = a) : a ≠ k := by
  obtain ⟨p, q, e, hpq, _⟩ := lok_nat (hW.ld i hi).1
  rw [e] at h
  unfold oend at h
  dsimp only at h
  split at h
  · omega
  · split at h <;> omega
theorem jl_facts {ns ls : List P2} {k : Int} (h : straight ns ls k = true) : WOk ns ls ∧ ∃ kk i0 i1 a b : Nat, k = kk ∧ kk < ns.length ∧ (leadsAt ns ls kk).length = 2 ∧ gi (leadsAt ns ls kk) (0 : Nat) = i0 ∧ gi (leadsAt ns ls kk) (1 : Nat) = i1 ∧ i0 < i1 ∧ i1 < ls.length ∧
    oend (gp ls (i0 : Nat)) kk = a ∧ a < ns.length ∧ a ≠ kk ∧ oend (gp ls (i1 : Nat)) kk = b ∧ b < ns.length ∧ b ≠ kk ∧ ∀ j, j < ls.length → j ≠ i0 → j ≠ i1 → (gp ls (j : Nat)).1 ≠ (kk : Int) ∧ (gp ls (j : Nat)).2 ≠ (kk : Int) := by
  simp only [straight, Bool.and_eq_true, decide_eq_true_eq] at h
  obtain ⟨hW, hlen, kk, i0, i1, a, b, rfl, hk, e0, e1, hi0, hi1, ha, han, hb, hbn⟩ := str_facts h.1
  have hN : hasN ns ls kk = true := by
    unfold leadsAt at hlen
    split at hlen
    · rename_i hh; simpa using hh
    · simp at hlen
  have hL : leadsAt ns ls kk = lat ls kk ls.length := by unfold leadsAt; rw [if_pos hN]
  obtain ⟨x, y, exy, hxy, hy, -, -, hot⟩ := lat_two (hL ▸ hlen)
  have e0' : (x : Int) = i0 := by rw [← e0, hL, exy]; rfl
  have e1' : (y : Int) = i1 := by rw [← e1, hL, exy]; rfl
  obtain rfl : x = i0 := by omega
  obtain rfl : y = i1 := by omega
  refine ⟨hW, kk, x, y, a, b, rfl, hk, hlen, e0, e1, hxy, hy, ha, han, oend_ne hW hi0 ha, hb, hbn, oend_ne hW hi1 hb, fun j hj n1 n2 => ?_⟩
  have := hot j hj n1 n2
  simpa [atL] using this

section
variable {ns ls : List P2} {kk i0 i1 a b : Nat}
theorem gp_set {L : List P2} {i j : Nat} {p : P2} (hj : j < L.length) : gp (L.set i p) (j : Nat) = if j = i then p else gp L (j : Nat) := by
  rw [gp_nat _ j (by simpa using hj), gp_nat _ j hj, List.getElem_set]
  split
  · rename_i e; rw [if_pos e.symm]
  · rename_i e; rw [if_neg (fun h => e h.symm)]
theorem jM_mem {L : List P2} {i1 : Nat} {q : P2} (h1 : i1 < L.length) (h : q ∈ wnN L (i1 : Int) L.length) : ∃ j, j < L.length ∧ j ≠ i1 ∧ q = gp L (j : Nat) := by
  rw [wnN_all h1, List.mem_append] at h
  rcases h with h | h
  · obtain ⟨j, hj, rfl⟩ := List.getElem_of_mem h
    have hj' : j < i1 := by simp at hj; omega
    exact ⟨j, by omega, by omega, by rw [List.getElem_take, gp_nat _ j (by omega)]⟩
  · obtain ⟨j, hj, rfl⟩ := List.getElem_of_mem h
    have hj' : i1 + 1 + j < L.length := by simp at hj; omega
    exact ⟨i1 + 1 + j, hj', by omega, by rw [List.getElem_drop, gp_nat _ _ hj']⟩
theorem wnL_free {L : List P2} {k : Int} (h : ∀ j, j < L.length → (gp L (j : Nat)).1 ≠ k ∧ (gp L (j : Nat)).2 ≠ k) : ∀ j, j ≤ L.length → wnL L k j = (L.take j).map (dn2 k)
  | 0, _ => by simp [wnL]
  | j + 1, hj => by
    unfold wnL
    rw [if_pos (h j (by omega)), wnL_free h j (by omega), List.take_succ_eq_append_getElem (show j < L.length by omega), List.map_append, gp_nat L j (by omega)]
    rfl
/-- the program's way to the leads -/
theorem jL_impl {p : P2} (h1 : i1 < ls.length) (hp : p.1 ≠ (kk : Int) ∧ p.2 ≠ (kk : Int)) (hot : ∀ j, j < ls.length → j ≠ i0 → j ≠ i1 → (gp ls (j : Nat)).1 ≠ (kk : Int) ∧ (gp ls (j : Nat)).2 ≠ (kk : Int)) :
    wnL (wnN (ls.set i0 p) (i1 : Int) ls.length) (kk : Int) (wnN (ls.set i0 p) (i1 : Int) ls.length).length = (wnN (ls.set i0 p) (i1 : Int) ls.length).map (dn2 kk) := by
  rw [wnL_free _ _ (Nat.le_refl _), List.take_length]
  intro j hj
  have hm : gp (wnN (ls.set i0 p) (i1 : Int) ls.length) (j : Nat) ∈ wnN (ls.set i0 p) (i1 : Int) (ls.set i0 p).length := by rw [gp_nat _ j hj, List.length_set]; exact List.getElem_mem hj
  obtain ⟨q, hq, hne, e⟩ := jM_mem (by simpa using h1) hm
  rw [e, gp_set (by simpa using hq)]
  split
  · exact hp
  · exact hot q (by simpa using hq) ‹_› hne
theorem jM_range {p : P2} (hW : WOk ns ls) (h1 : i1 < ls.length) (hp : (0 ≤ p.1 ∧ p.1 < 100) ∧ 0 ≤ p.2 ∧ p.2 < 100) : ∀ j, j < (wnN (ls.set i0 p) (i1 : Int) ls.length).length →
    0 ≤ (gp (wnN (ls.set i0 p) (i1 : Int) ls.length) (j : Nat)).1 ∧ (gp (wnN (ls.set i0 p) (i1 : Int) ls.length) (j : Nat)).1 < 100 ∧ 0 ≤ (gp (wnN (ls.set i0 p) (i1 : Int) ls.length) (j : Nat)).2 ∧ (gp (wnN (ls.set i0 p) (i1 : Int) ls.length) (j : Nat)).2 < 100 := by
  intro j hj
  have hm : gp (wnN (ls.set i0 p) (i1 : Int) ls.length) (j : Nat) ∈ wnN (ls.set i0 p) (i1 : Int) (ls.set i0 p).length := by rw [gp_nat _ j hj, List.length_set]; exact List.getElem_mem hj
  obtain ⟨q, hq, hne, e⟩ := jM_mem (by simpa using h1) hm
  rw [e, gp_set (by simpa using hq)]
  split
  · exact ⟨hp.1.1, hp.1.2, hp.2.1, hp.2.2⟩
  · exact wok_range (wok_iff.2 hW) q (by simpa using hq)
/-- one round of the reference's loop -/
theorem jm_skip {L : List P2} {j : Nat} (e : j = i1) : (wnN L (i1 : Int) (j + 1)).map (dn2 kk) = (wnN L (i1 : Int) j).map (dn2 kk) := by
  subst e
  rw [show wnN L (j : Int) (j + 1) = wnN L j j by rw [wnN]; exact if_pos rfl]
theorem jm_step {L : List P2} {j : Nat} (e : j ≠ i1) {x y : Int} (hg : gp L (j : Nat) = (x, y)) : (wnN L (i1 : Int) (j + 1)).map (dn2 kk) = (wnN L (i1 : Int) j).map (dn2 kk) ++ [(dnI kk x, dnI kk y)] := by
  rw [show wnN L (i1 : Int) (j + 1) = wnN L i1 j ++ [gp L (j : Nat)] by rw [wnN]; exact if_neg (by omega), List.map_append, hg]
  rfl
end
end Go.Proofs.Ytfhemddonahjgaa
