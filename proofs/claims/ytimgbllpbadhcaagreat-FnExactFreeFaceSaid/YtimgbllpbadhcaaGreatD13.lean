import Derived.Test.YtimgbllpbadhcaaGreatD12
namespace Go.Proofs.YtimgbllpbadhcaaGreat
open Go.RowKit Go.Sort Go.BigFrame

theorem sides_nn {ns ls : List P2} (hw : whole ns ls = true) {d : Nat} (hd : d < 2 * ls.length) : 0 ≤ gi (vSides ns ls) d := by rw [vSides_gi hw hd]; omega
theorem vIsLoose_yes {ns ls : List P2} (hw : whole ns ls = true) {j : Nat} (hj : j < ls.length) : vIsLoose ns ls j = decide (gi (vSides ns ls) (2 * (j : Int)) = gi (vSides ns ls) (2 * (j : Int) + 1)) := by
  have hk : wi (j : Int) 0 (ls.length - 1) = true := wi_iff.2 (by omega)
  have h0 := sides_nn hw (d := 2 * j) (by omega)
  have e : ((2 * j : Nat) : Int) = 2 * (j : Int) := by omega
  rw [e] at h0
  unfold vIsLoose vSidesOf
  rw [if_pos ⟨hw, hk⟩]
  simp [h0]
theorem vIsLoose_no {ns ls : List P2} (hw : whole ns ls = false) (k : Int) : vIsLoose ns ls k = false := by
  unfold vIsLoose vSidesOf
  rw [hw, if_neg (by simp)]
  simp
def vLooseLeads (ns ls : List P2) : List Int := flt (fun i => vIsLoose ns ls (i : Nat)) ls.length
theorem vLooseLeads_len (ns ls : List P2) : (vLooseLeads ns ls).length ≤ 1000 := by
  unfold vLooseLeads
  by_cases h : whole ns ls = true
  · have := (whole_ok h).1.le
    have := flt_len (fun i => vIsLoose ns ls (i : Nat)) ls.length
    omega
  · rw [flt_none (fun i _ => vIsLoose_no (eq_false_of_ne_true h) _)]
    simp

def vIsTight (ns ls : List P2) : Bool := whole ns ls && decide ((vLooseLeads ns ls).length = 0)
end Go.Proofs.YtimgbllpbadhcaaGreat
