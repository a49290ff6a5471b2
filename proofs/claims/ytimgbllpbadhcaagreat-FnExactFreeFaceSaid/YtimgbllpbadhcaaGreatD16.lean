import Derived.Test.YtimgbllpbadhcaaGreatD15
namespace Go.Proofs.YtimgbllpbadhcaaGreat
open Go.RowKit Go.Sort Go.BigFrame

/-! ### shared leads -/
def shP (S : List Int) (f g : Int) (j : Nat) : Bool := (gi S (2 * (j : Int)) == f && gi S (2 * (j : Int) + 1) == g) || (gi S (2 * (j : Int)) == g && gi S (2 * (j : Int) + 1) == f)
def vSharedLeads (ns ls : List P2) (f g : Int) : List Int := if hasF ns ls f = true ∧ hasF ns ls g = true then flt (shP (vSides ns ls) f g) ls.length else []
theorem vSharedLeads_len (ns ls : List P2) (f g : Int) : (vSharedLeads ns ls f g).length ≤ 1000 := by
  unfold vSharedLeads
  split
  · rename_i h
    have := (whole_ok (hasF_whole h.1)).1.le
    have := flt_len (shP (vSides ns ls) f g) ls.length
    omega
  · simp
def vAreBeside (ns ls : List P2) (f g : Int) : Bool := decide (f ≠ g) && decide (0 < (vSharedLeads ns ls f g).length)
end Go.Proofs.YtimgbllpbadhcaaGreat
