import Derived.Test.YtdhmjhoaegdfjaaGreatG6
import Derived.Test.YtdhmjhoaegdfjaaGreatG1
namespace Go.Proofs.YtdhmjhoaegdfjaaGreat
open Go.RowKit Go.Sort Go.BigFrame

def hasN (ns ls : List P2) (k : Int) : Bool := wok ns ls && wi k 0 (ns.length - 1)
theorem hasN_ok {ns ls : List P2} {k : Int} (h : hasN ns ls k = true) : WOk ns ls ∧ ∃ i : Nat, k = i ∧ i < ns.length := by
  simp only [hasN, wi, Bool.and_eq_true, decide_eq_true_eq] at h
  exact ⟨wok_iff.1 h.1, k.toNat, by omega, by omega⟩
def atL (l : P2) (k : Int) : Bool := decide (l.1 = k) || decide (l.2 = k)
/-- the leads at node k, of the first j -/
def lat (ls : List P2) (k : Int) (j : Nat) : List Int := ((List.range j).filter (fun i => atL (gp ls (i : Nat)) k)).map (fun i : Nat => (i : Int))
theorem lat_succ (ls : List P2) (k : Int) (j : Nat) : lat ls k (j + 1) = if atL (gp ls j) k = true then lat ls k j ++ [(j : Int)] else lat ls k j := by
  unfold lat
  rw [List.range_succ, List.filter_append]
  split
  · rename_i h; simp [h]
  · rename_i h; simp [h]
theorem lat_len (ls : List P2) (k : Int) (j : Nat) : (lat ls k j).length ≤ j := by
  unfold lat
  rw [List.length_map]
  have := List.length_filter_le (fun i => atL (gp ls (i : Nat)) k) (List.range j)
  rwa [List.length_range] at this
def leadsAt (ns ls : List P2) (k : Int) : List Int := if hasN ns ls k = true then lat ls k ls.length else []
theorem leadsAt_len (ns ls : List P2) (k : Int) : (leadsAt ns ls k).length ≤ 20 := by
  unfold leadsAt
  split
  · rename_i h
    have := (hasN_ok h).1.le
    have := lat_len ls k ls.length
    omega
  · simp
def degOf (ns ls : List P2) (k : Int) : Int := if hasN ns ls k = true then ((leadsAt ns ls k).length : Nat) else -1
def oend (l : P2) (k : Int) : Int := if k = l.1 then l.2 else if k = l.2 then l.1 else -1

end Go.Proofs.YtdhmjhoaegdfjaaGreat

namespace Go.Proofs.YtdhmjhoaegdfjaaGreat
open Go.RowKit Go.Sort Go.BigFrame

end Go.Proofs.YtdhmjhoaegdfjaaGreat

namespace Go.Proofs.YtdhmjhoaegdfjaaGreat
open Go.RowKit Go.Sort Go.BigFrame

theorem lat_mem {ls : List P2} {k : Int} {j : Nat} {x : Int} (h : x ∈ lat ls k j) : ∃ i : Nat, x = i ∧ i < j ∧ atL (gp ls i) k = true := by
  unfold lat at h
  rw [List.mem_map] at h
  obtain ⟨i, hi, rfl⟩ := h
  rw [List.mem_filter, List.mem_range] at hi
  exact ⟨i, rfl, hi.1, hi.2⟩
theorem leadsAt_mem {ns ls : List P2} {k : Int} {x : Int} (h : x ∈ leadsAt ns ls k) : hasN ns ls k = true ∧ ∃ i : Nat, x = i ∧ i < ls.length ∧ atL (gp ls i) k = true := by
  unfold leadsAt at h
  split at h
  · rename_i hh; exact ⟨hh, lat_mem h⟩
  · cases h
theorem gi_mem {l : List Int} {j : Nat} (h : j < l.length) : gi l j ∈ l := by rw [gi_nat l j h]; exact List.getElem_mem h
/-- the other end of a lead at a node is a node -/
theorem oend_ok {ns ls : List P2} {k : Int} {i : Nat} (hw : hasN ns ls k = true) (hi : i < ls.length) (ha : atL (gp ls i) k = true) : ∃ a : Nat, oend (gp ls i) k = a ∧ a < ns.length := by
  have hv := vd_of_ok (hasN_ok hw).1
  obtain ⟨f, t, e, hf, ht⟩ := hv (gp ls i) (by rw [gp_nat ls i hi]; exact List.getElem_mem hi)
  rw [e] at ha ⊢
  simp only [atL, Bool.or_eq_true, decide_eq_true_eq] at ha
  unfold oend
  by_cases h1 : k = (f : Int)
  · exact ⟨t, by simp [h1], ht⟩
  · have h2 : k = (t : Int) := by rcases ha with h | h <;> omega
    exact ⟨f, by first | (simp [h2]; done) | (simp [h2]; omega), hf⟩
def ends (ns ls : List P2) (k : Int) : List Int := (leadsAt ns ls k).map (fun i => oend (gp ls i) k)

def straight (ns ls : List P2) (k : Int) : Bool :=
  decide (degOf ns ls k = 2) && btw (gp ns (oend (gp ls (gi (leadsAt ns ls k) (0 : Nat))) k)) (gp ns (oend (gp ls (gi (leadsAt ns ls k) (1 : Nat))) k)) (gp ns k)
theorem str_facts {ns ls : List P2} {k : Int} (h : degOf ns ls k = 2) : WOk ns ls ∧ (leadsAt ns ls k).length = 2 ∧ ∃ kk i0 i1 a b : Nat, k = kk ∧ kk < ns.length ∧ gi (leadsAt ns ls k) (0 : Nat) = i0 ∧ gi (leadsAt ns ls k) (1 : Nat) = i1 ∧
    i0 < ls.length ∧ i1 < ls.length ∧ oend (gp ls i0) k = a ∧ a < ns.length ∧ oend (gp ls i1) k = b ∧ b < ns.length := by
  unfold degOf at h
  split at h
  · rename_i hw
    have hlen : (leadsAt ns ls k).length = 2 := by omega
    obtain ⟨hW, kk, hk, hkn⟩ := hasN_ok hw
    obtain ⟨-, i0, e0, hi0, ha0⟩ := leadsAt_mem (gi_mem (l := leadsAt ns ls k) (j := 0) (by omega))
    obtain ⟨-, i1, e1, hi1, ha1⟩ := leadsAt_mem (gi_mem (l := leadsAt ns ls k) (j := 1) (by omega))
    obtain ⟨a, ha, han⟩ := oend_ok hw hi0 ha0
    obtain ⟨b, hb, hbn⟩ := oend_ok hw hi1 ha1
    exact ⟨hW, hlen, kk, i0, i1, a, b, hk, hkn, e0, e1, hi0, hi1, ha, han, hb, hbn⟩
  · omega
end Go.Proofs.YtdhmjhoaegdfjaaGreat

namespace Go.Proofs.YtdhmjhoaegdfjaaGreat
open Go.RowKit Go.Sort Go.BigFrame

theorem Ext.frz {w w1 : World} (hb : Ext w w1) {b o : Nat} (hlt : b < w.heap.size) (h : w.frozen? ⟨b, o, none⟩ = false) : w1.frozen? ⟨b, o, none⟩ = false := by
  rw [Below.frozen hb (p := ⟨b, o, none⟩) hlt]; exact h
theorem ends_gi {ns ls : List P2} {k : Int} {j : Nat} (h : j < (leadsAt ns ls k).length) : gi (ends ns ls k) j = oend (gp ls (gi (leadsAt ns ls k) j)) k := by
  rw [gi_nat _ j (by simpa [ends] using h), gi_nat _ j h]
  simp [ends]

end Go.Proofs.YtdhmjhoaegdfjaaGreat

namespace Go.Proofs.YtdhmjhoaegdfjaaGreat
open Go.RowKit Go.Sort Go.BigFrame

theorem straight_ok {ns ls : List P2} {k : Int} (h : straight ns ls k = true) : WOk ns ls := by
  simp only [straight, Bool.and_eq_true, decide_eq_true_eq] at h
  exact (str_facts h.1).1
def vStraightNodes (ns ls : List P2) : List Int := flt (fun i => straight ns ls (i : Nat)) ns.length
theorem vStraightNodes_len (ns ls : List P2) : (vStraightNodes ns ls).length ≤ 1000 := by
  unfold vStraightNodes
  by_cases h : ∃ i : Nat, straight ns ls i = true
  · obtain ⟨i, hi⟩ := h
    have := (straight_ok hi).hi
    have := flt_len (fun i => straight ns ls (i : Nat)) ns.length
    omega
  · rw [flt_none (fun i _ => by rw [Bool.eq_false_iff]; exact fun e => h ⟨i, e⟩)]
    simp

def vEndNodes (ns ls : List P2) : List Int := if wok ns ls = true then flt (fun i => decide (degOf ns ls (i : Nat) = 1)) ns.length else []
theorem vEndNodes_len (ns ls : List P2) : (vEndNodes ns ls).length ≤ 1000 := by
  unfold vEndNodes
  split
  · rename_i h
    have := (wok_iff.1 h).hi
    have := flt_len (fun i => decide (degOf ns ls (i : Nat) = 1)) ns.length
    omega
  · simp
end Go.Proofs.YtdhmjhoaegdfjaaGreat
